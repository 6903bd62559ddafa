/- The comparison of a path's end of the law FnBallsGoOfAll's walk, on the road where the pure part's facts hold. Its conditions are these facts, each a hypothesis. -/
import Derived.Test.YtbbkbooiefoihaaBallsHead
namespace Go.Proofs.Ytbbkbooiefoihaa.PFnBallsGoOfAll
open Go.RowKit Go.Proofs.YtbbkbooiefoihaaW.PrintWords Go.Proofs.YtbbkbooiefoihaaW.PrintLast Go.Proofs.YtbbkbooiefoihaaW.PrintMore
attribute [local go_sem] max2_int min2_int max_two min_two max_three min_three max_four min_four
set_option linter.unusedVariables false
set_option linter.unusedSimpArgs false

set_option maxHeartbeats 16000000 in
set_option maxRecDepth 100000 in
theorem sec28 (k : Nat) (A0 : Option Addr) (c0 : Nat) (l0 : List Int) (a1 a2 : Int) (A3 : Option Addr) (c3 : Nat) (l3 : List Int) (a4 a5 : Int) (w : World) (pl : Int) (ok : Bool) (P : List Int) (en : ByteArray) (Lp : List Int) (five : Bool) (un nx : Int) (Ap Aq Al Am : Option Addr) (cp cq cl cm : Nat) (HR0 : Aside0 (Kd.C (Kd.int .i64) w A0 l0.length l0)) (HC0 : Aside0 (l0.length ≤ c0)) (HPc : Aside0 (P.length ≤ cp)) (HLc : Aside0 (Lp.length ≤ cl)) (F : Aside0 (Ball k l0 a1 a2 pl ok P true en Lp five un nx)) 
    (wr : World) (HP : Aside0 (Kd.C (Kd.int .i64) wr Ap P.length P)) (HL : Aside0 (Kd.C (Kd.int .i64) wr Al Lp.length Lp)) (HB : Aside0 (Below w.heap.size w wr)) (bh : Int) (HBH : Aside0 (bh = wrap64 (rd P (wrap64 ((P.length : Int) - 1)) + rd l0 (rd P (wrap64 ((P.length : Int) - 1)))))) (K K1 : Act → World → Prop) (Q : Exit → Act → World → Prop) (u6 u7 u8 u9 u10 u11 u12 u37 u38 u39 u41 u42 u43 u44 u45 u46 u47 u48 u49 u50 u51 u52 u53 u54 u55 u56 u57 u58 u59 u60 u61 u62 u63 u64 u65 u66 u67 u68 u69 u70 u71 u72 u73 u74 u75 u76 u77 u78 u79 u80 u81 u82 u83 u84 u85 u86 u87 u88 u89 u90 u91 u92 u93 u94 u95 u96 u97 u98 u99 u100 u101 u102 u103 u104 u105 u106 u107 u108 u109 u110 u111 u112 u113 u114 u115 u116 u117 u118 u119 u120 u121 u122 u123 u124 u125 u126 u127 u128 u129 u130 u131 u132 u133 u134 u135 u136 u137 u138 u139 u140 u141 u142 u143 u144 u145 u146 u147 u148 u149 u150 u151 u152 u153 u154 u155 u156 u157 u158 u159 u160 u161 u162 u163 u164 u165 u166 u167 u168 u169 u170 u171 u172 u173 u174 u175 u176 u177 u178 u179 u180 u181 u182 u183 u184 u185 u186 u187 u188 u189 u190 u191 u192 u193 u194 u195 u196 u197 u198 u199 u200 u201 u202 u203 u204 u205 u206 u207 u208 u209 u210 u211 u212 u213 u214 u215 u216 u217 u218 u219 u220 u221 u222 u223 u224 u225 u226 u227 u228 u229 u230 u231 u232 u233 u234 u235 u236 u237 u238 u239 u240 u241 u242 u243 u244 u245 u246 u247 u248 u249 u250 u251 u252 u253 u254 u255 u256 u257 u258 u259 u260 u261 u262 u263 u264 u265 u266 u267 u268 u269 u270 u271 u272 u273 u274 u275 u276 u277 u278 u279 u280 u281 u282 u283 u284 u285 u286 u287 u288 u289 u290 u291 u292 u293 u294 u295 u296 u297 u298 u299 u300 u301 u302 u303 u304 u305 u306 u307 u308 u309 u310 u311 u312 u313 u314 u315 u316 u317 u318 u319 u320 u321 u322 u323 u324 u325 u326 u327 u328 u329 u330 u331 u332 u333 u334 u335 u336 u337 u338 u339 u340 u341 u342 u343 u344 u345 u346 u347 u348 u349 u350 u351 u352 u353 u354 u355 u356 u357 u358 u359 u360 u361 u362 u363 u364 u365 u366 u367 u368 u369 u370 u371 u372 u373 u374 u375 u376 u377 u378 u379 u380 u381 u382 u383 u384 u385 u386 u387 u388 u389 u390 u391 u392 u393 u394 u395 u396 u397 u398 u399 u400 u401 u402 u403 u404 u405 u406 u407 u408 u409 u410 u411 u412 u413 u414 u415 u416 u417 u418 u419 u420 u421 u422 u423 u424 u425 u426 u427 u428 u429 u430 u431 u432 u433 u434 u435 u436 u437 u438 u439 u440 u441 u442 u443 u444 u445 u446 u447 u448 u449 u450 u451 u452 u453 u454 u455 u456 u457 u458 u459 u460 u461 u462 u463 u464 u465 u466 u467 u468 u469 u470 u471 u472 u473 u474 u475 u476 u477 u478 u479 u480 u481 u482 u483 u484 u485 u486 u487 u488 u489 u490 u491 u492 u493 u494 u495 u496 u497 u498 u499 u500 u501 u502 u503 u504 u505 u506 u507 u508 u509 u510 u511 u512 u513 u514 u515 u516 u517 u518 u519 u520 u521 u522 u523 u524 u525 u526 u527 u528 u529 u530 u531 u532 u533 u534 u535 u536 u537 u538 u539 u540 u541 u542 u543 u544 u545 u546 u547 u548 u549 u550 u551 u552 u553 u554 u555 u556 u557 u558 u559 u560 u561 u562 u563 u564 u565 u566 u567 u568 u569 u570 u571 u572 u573 u574 u575 u576 u577 u578 u579 u580 u581 u582 u583 u584 u585 u586 u587 u588 u589 u590 u591 u592 u593 u594 u595 u596 u597 u598 u599 u600 u601 u602 u603 u604 u605 u606 u607 u608 u609 u610 u611 u612 u613 u614 u615 u616 u617 u618 u619 u620 u621 u622 u623 u624 u625 u626 u627 u628 u629 u630 u631 u632 u633 u634 u635 u636 u637 u638 u639 u640 u641 u642 u643 u644 u645 u646 u647 u648 u649 u650 u651 u652 u653 u654 u655 u656 u657 u658 u659 u660 u661 u662 u663 u664 u665 u666 u667 u668 u669 u670 u671 u672 u673 u674 u675 u676 u677 u678 u679 u680 u681 u682 u683 u684 u685 u686 : Value)
    (hc : ∀ a' w', Code.wp Try.prog (tl (nth 4 (thenC (tl (nth 15 bodyC))))) (Exit.then K1 Q) a' w' → K a' w')
    (hK1 : ∀ (t12 t37 t38 t39 t41 t42 t43 t44 t45 t46 t47 t48 t49 t50 t51 t52 t53 t54 t55 t56 t57 t58 t59 t60 t61 t62 t63 t64 t65 t66 t67 t68 t69 t70 t71 t72 t73 t74 t75 t76 t77 t78 t79 t80 t81 t82 t83 t84 t85 t86 t87 t88 t89 t90 t91 t92 t93 t94 t95 t96 t97 t98 t99 t100 t101 t102 t103 t104 t105 t106 t107 t108 t109 t110 t111 t112 t113 t114 t115 t116 t117 t118 t119 t120 t121 t122 t123 t124 t125 t126 t127 t128 t129 t130 t131 t132 t133 t134 t135 t136 t137 t138 t139 t140 t141 t142 t143 t144 t145 t146 t147 t148 t149 t150 t151 t152 t153 t154 t155 t156 t157 t158 t159 t160 t161 t162 t163 t164 t165 t166 t167 t168 t169 t170 t171 t172 t173 t174 t175 t176 t177 t178 t179 t180 t181 t182 t183 t184 t185 t186 t187 t188 t189 t190 t191 t192 t193 t194 t195 t196 t197 t198 t199 t200 t201 t202 t203 t204 t205 t206 t207 t208 t209 t210 t211 t212 t213 t214 t215 t216 t217 t218 t219 t220 t221 t222 t223 t224 t225 t226 t227 t228 t229 t230 t231 t232 t233 t234 t235 t236 t237 t238 t239 t240 t241 t242 t243 t244 t245 t246 t247 t248 t249 t250 t251 t252 t253 t254 t255 t256 t257 t258 t259 t260 t261 t262 t263 t264 t265 t266 t267 t268 t269 t270 t271 t272 t273 t274 t275 t276 t277 t278 t279 t280 t281 t282 t283 t284 t285 t286 t287 t288 t289 t290 t291 t292 t293 t294 t295 t296 t297 t298 t299 t300 t301 t302 t303 t304 t305 t306 t307 t308 t309 t310 t311 t312 t313 t314 t315 t316 t317 t318 t319 t320 t321 t322 t323 t324 t325 t326 t327 t328 t329 t330 t331 t332 t333 t334 t335 t336 t337 t338 t339 t340 t341 t342 t343 t344 t345 t346 t347 t348 t349 t350 t351 t352 t353 t354 t355 t356 t357 t358 t359 t360 t361 t362 t363 t364 t365 t366 t367 t368 t369 t370 t371 t372 t373 t374 t375 t376 t377 t378 t379 t380 t381 t382 t383 t384 t385 t386 t387 t388 t389 t390 t391 t392 t393 t394 t395 t396 t397 t398 t399 t400 t401 t402 t403 t404 t405 t406 t407 t408 t409 t410 t411 t412 t413 t414 t415 t416 t417 t418 t419 t420 t421 t422 t423 t424 t425 t426 t427 t428 t429 t430 t431 t432 t433 t434 t435 t436 t437 t438 t439 t440 t441 t442 t443 t444 t445 t446 t447 t448 t449 t450 t451 t452 t453 t454 t455 t456 t457 t458 t459 t460 t461 t462 t463 t464 t465 t466 t467 t468 t469 t470 t471 t472 t473 t474 t475 t476 t477 t478 t479 t480 t481 t482 t483 t484 t485 t486 t487 t488 t489 t490 t491 t492 t493 t494 t495 t496 t497 t498 t499 t500 t501 t502 t503 t504 t505 t506 t507 t508 t509 t510 t511 t512 t513 t514 t515 t516 t517 t518 t519 t520 t521 t522 t523 t524 t525 t526 t527 t528 t529 t530 t531 t532 t533 t534 t535 t536 t537 t538 t539 t540 t541 t542 t543 t544 t545 t546 t547 t548 t549 t550 t551 t552 t553 t554 t555 t556 t557 t558 t559 t560 t561 t562 t563 t564 t565 t566 t567 t568 t569 t570 t571 t572 t573 t574 t575 t576 t577 t578 t579 t580 t581 t582 t583 t584 t585 t586 t587 t588 t589 t590 t591 t592 t593 t594 t595 t596 t597 t598 t599 t600 t601 t602 t603 t604 t605 t606 t607 t608 t609 t610 t611 t612 t613 t614 t615 t616 t617 t618 t619 t620 t621 t622 t623 t624 t625 t626 t627 t628 t629 t630 t631 t632 t633 t634 t635 t636 t637 t638 t639 t640 t641 t642 t643 t644 t645 t646 t647 t648 t649 t650 t651 t652 t653 t654 t655 t656 t657 t658 t659 t660 t661 t662 t663 t664 t665 t666 t667 t668 t669 t670 t671 t672 t673 t674 t675 t676 t677 t678 t679 t680 t681 t682 t683 t684 t685 t686 : Value) (wc : World), Aside0 (Kd.C (Kd.int .i64) wc Ap P.length P) → Aside0 (Kd.C (Kd.int .i64) wc Al Lp.length Lp) → Aside0 (Below w.heap.size w wc) → K1 ⟨#[.slice A0 l0.length c0, .int .i64 a1, .int .i64 a2, .slice A3 l3.length c3, .int .i64 a4, .int .i64 a5, u6, u7, u8, u9, u10, u11, t12, .int .i64 pl, .bool ok, .int .i64 pl, .bool ok, .slice Ap P.length cp, .bool true, .slice Aq P.length cq, .bool true, .string en, .bool true, .string en, .bool true, .slice Al Lp.length cl, .bool five, .slice Am Lp.length cm, .bool five, .int .i64 un, .bool five, .int .i64 un, .bool five, .int .i64 nx, .bool true, .int .i64 nx, .bool true, t37, t38, t39, .int .i64 bh, t41, t42, t43, t44, t45, t46, t47, t48, t49, t50, t51, t52, t53, t54, t55, t56, t57, t58, t59, t60, t61, t62, t63, t64, t65, t66, t67, t68, t69, t70, t71, t72, t73, t74, t75, t76, t77, t78, t79, t80, t81, t82, t83, t84, t85, t86, t87, t88, t89, t90, t91, t92, t93, t94, t95, t96, t97, t98, t99, t100, t101, t102, t103, t104, t105, t106, t107, t108, t109, t110, t111, t112, t113, t114, t115, t116, t117, t118, t119, t120, t121, t122, t123, t124, t125, t126, t127, t128, t129, t130, t131, t132, t133, t134, t135, t136, t137, t138, t139, t140, t141, t142, t143, t144, t145, t146, t147, t148, t149, t150, t151, t152, t153, t154, t155, t156, t157, t158, t159, t160, t161, t162, t163, t164, t165, t166, t167, t168, t169, t170, t171, t172, t173, t174, t175, t176, t177, t178, t179, t180, t181, t182, t183, t184, t185, t186, t187, t188, t189, t190, t191, t192, t193, t194, t195, t196, t197, t198, t199, t200, t201, t202, t203, t204, t205, t206, t207, t208, t209, t210, t211, t212, t213, t214, t215, t216, t217, t218, t219, t220, t221, t222, t223, t224, t225, t226, t227, t228, t229, t230, t231, t232, t233, t234, t235, t236, t237, t238, t239, t240, t241, t242, t243, t244, t245, t246, t247, t248, t249, t250, t251, t252, t253, t254, t255, t256, t257, t258, t259, t260, t261, t262, t263, t264, t265, t266, t267, t268, t269, t270, t271, t272, t273, t274, t275, t276, t277, t278, t279, t280, t281, t282, t283, t284, t285, t286, t287, t288, t289, t290, t291, t292, t293, t294, t295, t296, t297, t298, t299, t300, t301, t302, t303, t304, t305, t306, t307, t308, t309, t310, t311, t312, t313, t314, t315, t316, t317, t318, t319, t320, t321, t322, t323, t324, t325, t326, t327, t328, t329, t330, t331, t332, t333, t334, t335, t336, t337, t338, t339, t340, t341, t342, t343, t344, t345, t346, t347, t348, t349, t350, t351, t352, t353, t354, t355, t356, t357, t358, t359, t360, t361, t362, t363, t364, t365, t366, t367, t368, t369, t370, t371, t372, t373, t374, t375, t376, t377, t378, t379, t380, t381, t382, t383, t384, t385, t386, t387, t388, t389, t390, t391, t392, t393, t394, t395, t396, t397, t398, t399, t400, t401, t402, t403, t404, t405, t406, t407, t408, t409, t410, t411, t412, t413, t414, t415, t416, t417, t418, t419, t420, t421, t422, t423, t424, t425, t426, t427, t428, t429, t430, t431, t432, t433, t434, t435, t436, t437, t438, t439, t440, t441, t442, t443, t444, t445, t446, t447, t448, t449, t450, t451, t452, t453, t454, t455, t456, t457, t458, t459, t460, t461, t462, t463, t464, t465, t466, t467, t468, t469, t470, t471, t472, t473, t474, t475, t476, t477, t478, t479, t480, t481, t482, t483, t484, t485, t486, t487, t488, t489, t490, t491, t492, t493, t494, t495, t496, t497, t498, t499, t500, t501, t502, t503, t504, t505, t506, t507, t508, t509, t510, t511, t512, t513, t514, t515, t516, t517, t518, t519, t520, t521, t522, t523, t524, t525, t526, t527, t528, t529, t530, t531, t532, t533, t534, t535, t536, t537, t538, t539, t540, t541, t542, t543, t544, t545, t546, t547, t548, t549, t550, t551, t552, t553, t554, t555, t556, t557, t558, t559, t560, t561, t562, t563, t564, t565, t566, t567, t568, t569, t570, t571, t572, t573, t574, t575, t576, t577, t578, t579, t580, t581, t582, t583, t584, t585, t586, t587, t588, t589, t590, t591, t592, t593, t594, t595, t596, t597, t598, t599, t600, t601, t602, t603, t604, t605, t606, t607, t608, t609, t610, t611, t612, t613, t614, t615, t616, t617, t618, t619, t620, t621, t622, t623, t624, t625, t626, t627, t628, t629, t630, t631, t632, t633, t634, t635, t636, t637, t638, t639, t640, t641, t642, t643, t644, t645, t646, t647, t648, t649, t650, t651, t652, t653, t654, t655, t656, t657, t658, t659, t660, t661, t662, t663, t664, t665, t666, t667, t668, t669, t670, t671, t672, t673, t674, t675, t676, t677, t678, t679, t680, t681, t682, t683, t684, t685, t686], []⟩ wc) :
    Code.wp Try.prog (hd (nth 4 (thenC (tl (nth 15 bodyC))))) (Exit.then K (Exit.then K1 Q)) ⟨#[.slice A0 l0.length c0, .int .i64 a1, .int .i64 a2, .slice A3 l3.length c3, .int .i64 a4, .int .i64 a5, u6, u7, u8, u9, u10, u11, u12, .int .i64 pl, .bool ok, .int .i64 pl, .bool ok, .slice Ap P.length cp, .bool true, .slice Aq P.length cq, .bool true, .string en, .bool true, .string en, .bool true, .slice Al Lp.length cl, .bool five, .slice Am Lp.length cm, .bool five, .int .i64 un, .bool five, .int .i64 un, .bool five, .int .i64 nx, .bool true, .int .i64 nx, .bool true, u37, u38, u39, .int .i64 bh, u41, u42, u43, u44, u45, u46, u47, u48, u49, u50, u51, u52, u53, u54, u55, u56, u57, u58, u59, u60, u61, u62, u63, u64, u65, u66, u67, u68, u69, u70, u71, u72, u73, u74, u75, u76, u77, u78, u79, u80, u81, u82, u83, u84, u85, u86, u87, u88, u89, u90, u91, u92, u93, u94, u95, u96, u97, u98, u99, u100, u101, u102, u103, u104, u105, u106, u107, u108, u109, u110, u111, u112, u113, u114, u115, u116, u117, u118, u119, u120, u121, u122, u123, u124, u125, u126, u127, u128, u129, u130, u131, u132, u133, u134, u135, u136, u137, u138, u139, u140, u141, u142, u143, u144, u145, u146, u147, u148, u149, u150, u151, u152, u153, u154, u155, u156, u157, u158, u159, u160, u161, u162, u163, u164, u165, u166, u167, u168, u169, u170, u171, u172, u173, u174, u175, u176, u177, u178, u179, u180, u181, u182, u183, u184, u185, u186, u187, u188, u189, u190, u191, u192, u193, u194, u195, u196, u197, u198, u199, u200, u201, u202, u203, u204, u205, u206, u207, u208, u209, u210, u211, u212, u213, u214, u215, u216, u217, u218, u219, u220, u221, u222, u223, u224, u225, u226, u227, u228, u229, u230, u231, u232, u233, u234, u235, u236, u237, u238, u239, u240, u241, u242, u243, u244, u245, u246, u247, u248, u249, u250, u251, u252, u253, u254, u255, u256, u257, u258, u259, u260, u261, u262, u263, u264, u265, u266, u267, u268, u269, u270, u271, u272, u273, u274, u275, u276, u277, u278, u279, u280, u281, u282, u283, u284, u285, u286, u287, u288, u289, u290, u291, u292, u293, u294, u295, u296, u297, u298, u299, u300, u301, u302, u303, u304, u305, u306, u307, u308, u309, u310, u311, u312, u313, u314, u315, u316, u317, u318, u319, u320, u321, u322, u323, u324, u325, u326, u327, u328, u329, u330, u331, u332, u333, u334, u335, u336, u337, u338, u339, u340, u341, u342, u343, u344, u345, u346, u347, u348, u349, u350, u351, u352, u353, u354, u355, u356, u357, u358, u359, u360, u361, u362, u363, u364, u365, u366, u367, u368, u369, u370, u371, u372, u373, u374, u375, u376, u377, u378, u379, u380, u381, u382, u383, u384, u385, u386, u387, u388, u389, u390, u391, u392, u393, u394, u395, u396, u397, u398, u399, u400, u401, u402, u403, u404, u405, u406, u407, u408, u409, u410, u411, u412, u413, u414, u415, u416, u417, u418, u419, u420, u421, u422, u423, u424, u425, u426, u427, u428, u429, u430, u431, u432, u433, u434, u435, u436, u437, u438, u439, u440, u441, u442, u443, u444, u445, u446, u447, u448, u449, u450, u451, u452, u453, u454, u455, u456, u457, u458, u459, u460, u461, u462, u463, u464, u465, u466, u467, u468, u469, u470, u471, u472, u473, u474, u475, u476, u477, u478, u479, u480, u481, u482, u483, u484, u485, u486, u487, u488, u489, u490, u491, u492, u493, u494, u495, u496, u497, u498, u499, u500, u501, u502, u503, u504, u505, u506, u507, u508, u509, u510, u511, u512, u513, u514, u515, u516, u517, u518, u519, u520, u521, u522, u523, u524, u525, u526, u527, u528, u529, u530, u531, u532, u533, u534, u535, u536, u537, u538, u539, u540, u541, u542, u543, u544, u545, u546, u547, u548, u549, u550, u551, u552, u553, u554, u555, u556, u557, u558, u559, u560, u561, u562, u563, u564, u565, u566, u567, u568, u569, u570, u571, u572, u573, u574, u575, u576, u577, u578, u579, u580, u581, u582, u583, u584, u585, u586, u587, u588, u589, u590, u591, u592, u593, u594, u595, u596, u597, u598, u599, u600, u601, u602, u603, u604, u605, u606, u607, u608, u609, u610, u611, u612, u613, u614, u615, u616, u617, u618, u619, u620, u621, u622, u623, u624, u625, u626, u627, u628, u629, u630, u631, u632, u633, u634, u635, u636, u637, u638, u639, u640, u641, u642, u643, u644, u645, u646, u647, u648, u649, u650, u651, u652, u653, u654, u655, u656, u657, u658, u659, u660, u661, u662, u663, u664, u665, u666, u667, u668, u669, u670, u671, u672, u673, u674, u675, u676, u677, u678, u679, u680, u681, u682, u683, u684, u685, u686], []⟩ wr := by
  conv => arg 2; whnf
  conv at hc => enter [a', w', 1]; arg 2; whnf
  dsimp only at hK1
  obtain ⟨n1, n2⟩ := F.out.plen rfl
  have n3 := F.out.short
  have kA := F.out.endA rfl
  have kB := F.out.endB rfl
  have kq := F.out.p1 rfl
  have kr := F.out.p11 rfl
  have kd := F.out.kind rfl
  rw [← HBH.out] at kA kB
  have N2 := Aside0.mk n2
  have KQ := Aside0.mk kq
  have KR := Aside0.mk kr
  clear kq kr
  rcases kd with hk | hk | hk
  · skip
    have e97 : (en.toList == ([97] : List UInt8)) = true := by rw [hk]; rfl
    have m97 : (en.toList != ([97] : List UInt8)) = false := by rw [hk]; rfl
    have e98 : (en.toList == ([98] : List UInt8)) = false := by rw [hk]; rfl
    have m98 : (en.toList != ([98] : List UInt8)) = true := by rw [hk]; rfl
    have e108 : (en.toList == ([108] : List UInt8)) = false := by rw [hk]; rfl
    have m108 : (en.toList != ([108] : List UInt8)) = true := by rw [hk]; rfl
    have HK := Aside0.mk hk
    clear hk
    rw [e97] at kA
    rw [e98] at kB
    have kA1 : decide (bh < 0) = true := kA.symm
    have kB1 : decide ((l0.length : Int) ≤ bh) = false := kB.symm
    clear kA kB
    by_cases h1 : 1 < P.length
    · have h2 : (1 : Int) < (P.length : Int) := by omega
      have d1 : decide ((1 : Int) < (P.length : Int)) = true := decide_eq_true h2
      have d2 : decide (1 < P.length) = true := decide_eq_true h1
      have d3 : ((P.length : Int) == 1) = false := beq_eq_false_iff_ne.mpr (by omega)
      have d4 : (P.length == 1) = false := beq_eq_false_iff_ne.mpr (by omega)
      have d5 : (rd P 1 != nx) = false := bne_eq_false_iff_eq.mpr (KQ.out h1)
      have d6 : (rd P 1 == nx) = true := beq_iff_eq.mpr (KQ.out h1)
      have pa : 0 ≤ (1 : Int) := by omega
      have qa : (1 : Int) < (P.length : Int) := h2
      obtain ⟨ada, ea, hxa⟩ := Kd.at_int HP.out (1 : Int) pa qa
      cases ea
      (try simp only [show (1 : Int).toNat = 1 from rfl, Nat.reduceMul, Nat.reduceEqDiff, Go.Addr.add, ↓reduceIte] at hxa)
      have qia : (1 < P.length) = True := eq_true (by omega)
      (try rw [show ((1 : Int)).toNat = 1 from rfl] at hxa)
      (try rw [Addr.add_zero'] at hxa)
      have pba : decide (0 ≤ (1 : Int)) = true := decide_eq_true pa
      have qba : decide ((1 : Int) < (P.length : Int)) = true := decide_eq_true qa
      replace pa := eq_true pa
      replace qa := eq_true qa
      clear h1 h2 n1 n2 n3 KQ KR
      go_wp2
      repeat (go_quiet (fail); try go_wp2)
      apply hK1
      exact ⟨by repeat (first | exact HP.out | (with_reducible refine Kd.C_alloc ?_ _) | (with_reducible refine Kd.C_drewN ?_ _) | (with_reducible refine Kd.C_drew ?_))⟩
      exact ⟨by repeat (first | exact HL.out | (with_reducible refine Kd.C_alloc ?_ _) | (with_reducible refine Kd.C_drewN ?_ _) | (with_reducible refine Kd.C_drew ?_))⟩
      exact ⟨by repeat (first | (with_reducible first | exact HB.out | apply below_alloc | apply pw_below_drewN | apply below_drew1) | exact HB.out)⟩
    · have h2 : P.length = 1 := by omega
      have d1 : decide ((1 : Int) < (P.length : Int)) = false := decide_eq_false (by omega)
      have d2 : decide (1 < P.length) = false := decide_eq_false h1
      have d3 : ((P.length : Int) == 1) = true := beq_iff_eq.mpr (by omega)
      have d4 : (P.length == 1) = true := beq_iff_eq.mpr (by omega)
      clear h1 h2 n1 n2 n3 KQ KR
      go_wp2
      repeat (go_quiet (fail); try go_wp2)
      apply hK1
      exact ⟨by repeat (first | exact HP.out | (with_reducible refine Kd.C_alloc ?_ _) | (with_reducible refine Kd.C_drewN ?_ _) | (with_reducible refine Kd.C_drew ?_))⟩
      exact ⟨by repeat (first | exact HL.out | (with_reducible refine Kd.C_alloc ?_ _) | (with_reducible refine Kd.C_drewN ?_ _) | (with_reducible refine Kd.C_drew ?_))⟩
      exact ⟨by repeat (first | (with_reducible first | exact HB.out | apply below_alloc | apply pw_below_drewN | apply below_drew1) | exact HB.out)⟩
  · skip
    have e97 : (en.toList == ([97] : List UInt8)) = false := by rw [hk]; rfl
    have m97 : (en.toList != ([97] : List UInt8)) = true := by rw [hk]; rfl
    have e98 : (en.toList == ([98] : List UInt8)) = true := by rw [hk]; rfl
    have m98 : (en.toList != ([98] : List UInt8)) = false := by rw [hk]; rfl
    have e108 : (en.toList == ([108] : List UInt8)) = false := by rw [hk]; rfl
    have m108 : (en.toList != ([108] : List UInt8)) = true := by rw [hk]; rfl
    have HK := Aside0.mk hk
    clear hk
    rw [e97] at kA
    rw [e98] at kB
    have kA1 : decide (bh < 0) = false := kA.symm
    have kB1 : decide ((l0.length : Int) ≤ bh) = true := kB.symm
    clear kA kB
    by_cases h1 : 1 < P.length
    · have h2 : (1 : Int) < (P.length : Int) := by omega
      have d1 : decide ((1 : Int) < (P.length : Int)) = true := decide_eq_true h2
      have d2 : decide (1 < P.length) = true := decide_eq_true h1
      have d3 : ((P.length : Int) == 1) = false := beq_eq_false_iff_ne.mpr (by omega)
      have d4 : (P.length == 1) = false := beq_eq_false_iff_ne.mpr (by omega)
      have d5 : (rd P 1 != nx) = false := bne_eq_false_iff_eq.mpr (KQ.out h1)
      have d6 : (rd P 1 == nx) = true := beq_iff_eq.mpr (KQ.out h1)
      have pa : 0 ≤ (1 : Int) := by omega
      have qa : (1 : Int) < (P.length : Int) := h2
      obtain ⟨ada, ea, hxa⟩ := Kd.at_int HP.out (1 : Int) pa qa
      cases ea
      (try simp only [show (1 : Int).toNat = 1 from rfl, Nat.reduceMul, Nat.reduceEqDiff, Go.Addr.add, ↓reduceIte] at hxa)
      have qia : (1 < P.length) = True := eq_true (by omega)
      (try rw [show ((1 : Int)).toNat = 1 from rfl] at hxa)
      (try rw [Addr.add_zero'] at hxa)
      have pba : decide (0 ≤ (1 : Int)) = true := decide_eq_true pa
      have qba : decide ((1 : Int) < (P.length : Int)) = true := decide_eq_true qa
      replace pa := eq_true pa
      replace qa := eq_true qa
      clear h1 h2 n1 n2 n3 KQ KR
      go_wp2
      repeat (go_quiet (fail); try go_wp2)
      apply hK1
      exact ⟨by repeat (first | exact HP.out | (with_reducible refine Kd.C_alloc ?_ _) | (with_reducible refine Kd.C_drewN ?_ _) | (with_reducible refine Kd.C_drew ?_))⟩
      exact ⟨by repeat (first | exact HL.out | (with_reducible refine Kd.C_alloc ?_ _) | (with_reducible refine Kd.C_drewN ?_ _) | (with_reducible refine Kd.C_drew ?_))⟩
      exact ⟨by repeat (first | (with_reducible first | exact HB.out | apply below_alloc | apply pw_below_drewN | apply below_drew1) | exact HB.out)⟩
    · have h2 : P.length = 1 := by omega
      have d1 : decide ((1 : Int) < (P.length : Int)) = false := decide_eq_false (by omega)
      have d2 : decide (1 < P.length) = false := decide_eq_false h1
      have d3 : ((P.length : Int) == 1) = true := beq_iff_eq.mpr (by omega)
      have d4 : (P.length == 1) = true := beq_iff_eq.mpr (by omega)
      clear h1 h2 n1 n2 n3 KQ KR
      go_wp2
      repeat (go_quiet (fail); try go_wp2)
      apply hK1
      exact ⟨by repeat (first | exact HP.out | (with_reducible refine Kd.C_alloc ?_ _) | (with_reducible refine Kd.C_drewN ?_ _) | (with_reducible refine Kd.C_drew ?_))⟩
      exact ⟨by repeat (first | exact HL.out | (with_reducible refine Kd.C_alloc ?_ _) | (with_reducible refine Kd.C_drewN ?_ _) | (with_reducible refine Kd.C_drew ?_))⟩
      exact ⟨by repeat (first | (with_reducible first | exact HB.out | apply below_alloc | apply pw_below_drewN | apply below_drew1) | exact HB.out)⟩
  · skip
    have e97 : (en.toList == ([97] : List UInt8)) = false := by rw [hk]; rfl
    have m97 : (en.toList != ([97] : List UInt8)) = true := by rw [hk]; rfl
    have e98 : (en.toList == ([98] : List UInt8)) = false := by rw [hk]; rfl
    have m98 : (en.toList != ([98] : List UInt8)) = true := by rw [hk]; rfl
    have e108 : (en.toList == ([108] : List UInt8)) = true := by rw [hk]; rfl
    have m108 : (en.toList != ([108] : List UInt8)) = false := by rw [hk]; rfl
    have HK := Aside0.mk hk
    clear hk
    rw [e97] at kA
    rw [e98] at kB
    have kA1 : decide (bh < 0) = false := kA.symm
    have kB1 : decide ((l0.length : Int) ≤ bh) = false := kB.symm
    clear kA kB
    by_cases h1 : 1 < P.length
    · have h2 : (1 : Int) < (P.length : Int) := by omega
      have d1 : decide ((1 : Int) < (P.length : Int)) = true := decide_eq_true h2
      have d2 : decide (1 < P.length) = true := decide_eq_true h1
      have d3 : ((P.length : Int) == 1) = false := beq_eq_false_iff_ne.mpr (by omega)
      have d4 : (P.length == 1) = false := beq_eq_false_iff_ne.mpr (by omega)
      have d5 : (rd P 1 != nx) = false := bne_eq_false_iff_eq.mpr (KQ.out h1)
      have d6 : (rd P 1 == nx) = true := beq_iff_eq.mpr (KQ.out h1)
      have pa : 0 ≤ (1 : Int) := by omega
      have qa : (1 : Int) < (P.length : Int) := h2
      obtain ⟨ada, ea, hxa⟩ := Kd.at_int HP.out (1 : Int) pa qa
      cases ea
      (try simp only [show (1 : Int).toNat = 1 from rfl, Nat.reduceMul, Nat.reduceEqDiff, Go.Addr.add, ↓reduceIte] at hxa)
      have qia : (1 < P.length) = True := eq_true (by omega)
      (try rw [show ((1 : Int)).toNat = 1 from rfl] at hxa)
      (try rw [Addr.add_zero'] at hxa)
      have pba : decide (0 ≤ (1 : Int)) = true := decide_eq_true pa
      have qba : decide ((1 : Int) < (P.length : Int)) = true := decide_eq_true qa
      replace pa := eq_true pa
      replace qa := eq_true qa
      clear h1 h2 n1 n2 n3 KQ KR
      go_wp2
      repeat (go_quiet (fail); try go_wp2)
      apply hK1
      exact ⟨by repeat (first | exact HP.out | (with_reducible refine Kd.C_alloc ?_ _) | (with_reducible refine Kd.C_drewN ?_ _) | (with_reducible refine Kd.C_drew ?_))⟩
      exact ⟨by repeat (first | exact HL.out | (with_reducible refine Kd.C_alloc ?_ _) | (with_reducible refine Kd.C_drewN ?_ _) | (with_reducible refine Kd.C_drew ?_))⟩
      exact ⟨by repeat (first | (with_reducible first | exact HB.out | apply below_alloc | apply pw_below_drewN | apply below_drew1) | exact HB.out)⟩
    · have h2 : P.length = 1 := by omega
      have d1 : decide ((1 : Int) < (P.length : Int)) = false := decide_eq_false (by omega)
      have d2 : decide (1 < P.length) = false := decide_eq_false h1
      have d3 : ((P.length : Int) == 1) = true := beq_iff_eq.mpr (by omega)
      have d4 : (P.length == 1) = true := beq_iff_eq.mpr (by omega)
      have d5 : (nx != a1) = false := bne_eq_false_iff_eq.mpr (KR.out h2 HK.out)
      have d6 : (nx == a1) = true := beq_iff_eq.mpr (KR.out h2 HK.out)
      clear h1 h2 n1 n2 n3 KQ KR
      go_wp2
      repeat (go_quiet (fail); try go_wp2)
      apply hK1
      exact ⟨by repeat (first | exact HP.out | (with_reducible refine Kd.C_alloc ?_ _) | (with_reducible refine Kd.C_drewN ?_ _) | (with_reducible refine Kd.C_drew ?_))⟩
      exact ⟨by repeat (first | exact HL.out | (with_reducible refine Kd.C_alloc ?_ _) | (with_reducible refine Kd.C_drewN ?_ _) | (with_reducible refine Kd.C_drew ?_))⟩
      exact ⟨by repeat (first | (with_reducible first | exact HB.out | apply below_alloc | apply pw_below_drewN | apply below_drew1) | exact HB.out)⟩
end Go.Proofs.Ytbbkbooiefoihaa.PFnBallsGoOfAll
