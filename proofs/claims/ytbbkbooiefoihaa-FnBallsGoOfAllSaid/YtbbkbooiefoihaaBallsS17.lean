/- The block over a path of the law FnBallsGoOfAll's walk, on the road where the pure part's facts hold. Its conditions are these facts, each a hypothesis. -/
import Derived.Test.YtbbkbooiefoihaaBallsS28
namespace Go.Proofs.Ytbbkbooiefoihaa.PFnBallsGoOfAll
open Go.RowKit Go.Proofs.YtbbkbooiefoihaaW.PrintWords Go.Proofs.YtbbkbooiefoihaaW.PrintLast Go.Proofs.YtbbkbooiefoihaaW.PrintMore
attribute [local go_sem] max2_int min2_int max_two min_two max_three min_three max_four min_four
set_option linter.unusedVariables false
set_option linter.unusedSimpArgs false

set_option maxHeartbeats 16000000 in
set_option maxRecDepth 100000 in
theorem sec17 (k : Nat) (A0 : Option Addr) (c0 : Nat) (l0 : List Int) (a1 a2 : Int) (A3 : Option Addr) (c3 : Nat) (l3 : List Int) (a4 a5 : Int) (w : World) (pl : Int) (ok : Bool) (P : List Int) (one : Bool) (en : ByteArray) (Lp : List Int) (five : Bool) (un nx : Int) (Ap Aq Al Am : Option Addr) (cp cq cl cm : Nat) (HR0 : Aside0 (Kd.C (Kd.int .i64) w A0 l0.length l0)) (HC0 : Aside0 (l0.length ≤ c0)) (HPc : Aside0 (P.length ≤ cp)) (HLc : Aside0 (Lp.length ≤ cl)) (F : Aside0 (Ball k l0 a1 a2 pl ok P one en Lp five un nx)) 
    (wr : World) (HP : Aside0 (Kd.C (Kd.int .i64) wr Ap P.length P)) (HL : Aside0 (Kd.C (Kd.int .i64) wr Al Lp.length Lp)) (HB : Aside0 (Below w.heap.size w wr))  (K K1 : Act → World → Prop) (Q : Exit → Act → World → Prop) (u6 u7 u8 u9 u10 u11 u12 u37 u38 u39 u40 u41 u42 u43 u44 u45 u46 u47 u48 u49 u50 u51 u52 u53 u54 u55 u56 u57 u58 u59 u60 u61 u62 u63 u64 u65 u66 u67 u68 u69 u70 u71 u72 u73 u74 u75 u76 u77 u78 u79 u80 u81 u82 u83 u84 u85 u86 u87 u88 u89 u90 u91 u92 u93 u94 u95 u96 u97 u98 u99 u100 u101 u102 u103 u104 u105 u106 u107 u108 u109 u110 u111 u112 u113 u114 u115 u116 u117 u118 u119 u120 u121 u122 u123 u124 u125 u126 u127 u128 u129 u130 u131 u132 u133 u134 u135 u136 u137 u138 u139 u140 u141 u142 u143 u144 u145 u146 u147 u148 u149 u150 u151 u152 u153 u154 u155 u156 u157 u158 u159 u160 u161 u162 u163 u164 u165 u166 u167 u168 u169 u170 u171 u172 u173 u174 u175 u176 u177 u178 u179 u180 u181 u182 u183 u184 u185 u186 u187 u188 u189 u190 u191 u192 u193 u194 u195 u196 u197 u198 u199 u200 u201 u202 u203 u204 u205 u206 u207 u208 u209 u210 u211 u212 u213 u214 u215 u216 u217 u218 u219 u220 u221 u222 u223 u224 u225 u226 u227 u228 u229 u230 u231 u232 u233 u234 u235 u236 u237 u238 u239 u240 u241 u242 u243 u244 u245 u246 u247 u248 u249 u250 u251 u252 u253 u254 u255 u256 u257 u258 u259 u260 u261 u262 u263 u264 u265 u266 u267 u268 u269 u270 u271 u272 u273 u274 u275 u276 u277 u278 u279 u280 u281 u282 u283 u284 u285 u286 u287 u288 u289 u290 u291 u292 u293 u294 u295 u296 u297 u298 u299 u300 u301 u302 u303 u304 u305 u306 u307 u308 u309 u310 u311 u312 u313 u314 u315 u316 u317 u318 u319 u320 u321 u322 u323 u324 u325 u326 u327 u328 u329 u330 u331 u332 u333 u334 u335 u336 u337 u338 u339 u340 u341 u342 u343 u344 u345 u346 u347 u348 u349 u350 u351 u352 u353 u354 u355 u356 u357 u358 u359 u360 u361 u362 u363 u364 u365 u366 u367 u368 u369 u370 u371 u372 u373 u374 u375 u376 u377 u378 u379 u380 u381 u382 u383 u384 u385 u386 u387 u388 u389 u390 u391 u392 u393 u394 u395 u396 u397 u398 u399 u400 u401 u402 u403 u404 u405 u406 u407 u408 u409 u410 u411 u412 u413 u414 u415 u416 u417 u418 u419 u420 u421 u422 u423 u424 u425 u426 u427 u428 u429 u430 u431 u432 u433 u434 u435 u436 u437 u438 u439 u440 u441 u442 u443 u444 u445 u446 u447 u448 u449 u450 u451 u452 u453 u454 u455 u456 u457 u458 u459 u460 u461 u462 u463 u464 u465 u466 u467 u468 u469 u470 u471 u472 u473 u474 u475 u476 u477 u478 u479 u480 u481 u482 u483 u484 u485 u486 u487 u488 u489 u490 u491 u492 u493 u494 u495 u496 u497 u498 u499 u500 u501 u502 u503 u504 u505 u506 u507 u508 u509 u510 u511 u512 u513 u514 u515 u516 u517 u518 u519 u520 u521 u522 u523 u524 u525 u526 u527 u528 u529 u530 u531 u532 u533 u534 u535 u536 u537 u538 u539 u540 u541 u542 u543 u544 u545 u546 u547 u548 u549 u550 u551 u552 u553 u554 u555 u556 u557 u558 u559 u560 u561 u562 u563 u564 u565 u566 u567 u568 u569 u570 u571 u572 u573 u574 u575 u576 u577 u578 u579 u580 u581 u582 u583 u584 u585 u586 u587 u588 u589 u590 u591 u592 u593 u594 u595 u596 u597 u598 u599 u600 u601 u602 u603 u604 u605 u606 u607 u608 u609 u610 u611 u612 u613 u614 u615 u616 u617 u618 u619 u620 u621 u622 u623 u624 u625 u626 u627 u628 u629 u630 u631 u632 u633 u634 u635 u636 u637 u638 u639 u640 u641 u642 u643 u644 u645 u646 u647 u648 u649 u650 u651 u652 u653 u654 u655 u656 u657 u658 u659 u660 u661 u662 u663 u664 u665 u666 u667 u668 u669 u670 u671 u672 u673 u674 u675 u676 u677 u678 u679 u680 u681 u682 u683 u684 u685 u686 : Value)
    (hc : ∀ a' w', Code.wp Try.prog (tl (nth 15 bodyC)) (Exit.then K1 Q) a' w' → K a' w')
    (hK1 : ∀ (t12 t37 t38 t39 t40 t41 t42 t43 t44 t45 t46 t47 t48 t49 t50 t51 t52 t53 t54 t55 t56 t57 t58 t59 t60 t61 t62 t63 t64 t65 t66 t67 t68 t69 t70 t71 t72 t73 t74 t75 t76 t77 t78 t79 t80 t81 t82 t83 t84 t85 t86 t87 t88 t89 t90 t91 t92 t93 t94 t95 t96 t97 t98 t99 t100 t101 t102 t103 t104 t105 t106 t107 t108 t109 t110 t111 t112 t113 t114 t115 t116 t117 t118 t119 t120 t121 t122 t123 t124 t125 t126 t127 t128 t129 t130 t131 t132 t133 t134 t135 t136 t137 t138 t139 t140 t141 t142 t143 t144 t145 t146 t147 t148 t149 t150 t151 t152 t153 t154 t155 t156 t157 t158 t159 t160 t161 t162 t163 t164 t165 t166 t167 t168 t169 t170 t171 t172 t173 t174 t175 t176 t177 t178 t179 t180 t181 t182 t183 t184 t185 t186 t187 t188 t189 t190 t191 t192 t193 t194 t195 t196 t197 t198 t199 t200 t201 t202 t203 t204 t205 t206 t207 t208 t209 t210 t211 t212 t213 t214 t215 t216 t217 t218 t219 t220 t221 t222 t223 t224 t225 t226 t227 t228 t229 t230 t231 t232 t233 t234 t235 t236 t237 t238 t239 t240 t241 t242 t243 t244 t245 t246 t247 t248 t249 t250 t251 t252 t253 t254 t255 t256 t257 t258 t259 t260 t261 t262 t263 t264 t265 t266 t267 t268 t269 t270 t271 t272 t273 t274 t275 t276 t277 t278 t279 t280 t281 t282 t283 t284 t285 t286 t287 t288 t289 t290 t291 t292 t293 t294 t295 t296 t297 t298 t299 t300 t301 t302 t303 t304 t305 t306 t307 t308 t309 t310 t311 t312 t313 t314 t315 t316 t317 t318 t319 t320 t321 t322 t323 t324 t325 t326 t327 t328 t329 t330 t331 t332 t333 t334 t335 t336 t337 t338 t339 t340 t341 t342 t343 t344 t345 t346 t347 t348 t349 t350 t351 t352 t353 t354 t355 t356 t357 t358 t359 t360 t361 t362 t363 t364 t365 t366 t367 t368 t369 t370 t371 t372 t373 t374 t375 t376 t377 t378 t379 t380 t381 t382 t383 t384 t385 t386 t387 t388 t389 t390 t391 t392 t393 t394 t395 t396 t397 t398 t399 t400 t401 t402 t403 t404 t405 t406 t407 t408 t409 t410 t411 t412 t413 t414 t415 t416 t417 t418 t419 t420 t421 t422 t423 t424 t425 t426 t427 t428 t429 t430 t431 t432 t433 t434 t435 t436 t437 t438 t439 t440 t441 t442 t443 t444 t445 t446 t447 t448 t449 t450 t451 t452 t453 t454 t455 t456 t457 t458 t459 t460 t461 t462 t463 t464 t465 t466 t467 t468 t469 t470 t471 t472 t473 t474 t475 t476 t477 t478 t479 t480 t481 t482 t483 t484 t485 t486 t487 t488 t489 t490 t491 t492 t493 t494 t495 t496 t497 t498 t499 t500 t501 t502 t503 t504 t505 t506 t507 t508 t509 t510 t511 t512 t513 t514 t515 t516 t517 t518 t519 t520 t521 t522 t523 t524 t525 t526 t527 t528 t529 t530 t531 t532 t533 t534 t535 t536 t537 t538 t539 t540 t541 t542 t543 t544 t545 t546 t547 t548 t549 t550 t551 t552 t553 t554 t555 t556 t557 t558 t559 t560 t561 t562 t563 t564 t565 t566 t567 t568 t569 t570 t571 t572 t573 t574 t575 t576 t577 t578 t579 t580 t581 t582 t583 t584 t585 t586 t587 t588 t589 t590 t591 t592 t593 t594 t595 t596 t597 t598 t599 t600 t601 t602 t603 t604 t605 t606 t607 t608 t609 t610 t611 t612 t613 t614 t615 t616 t617 t618 t619 t620 t621 t622 t623 t624 t625 t626 t627 t628 t629 t630 t631 t632 t633 t634 t635 t636 t637 t638 t639 t640 t641 t642 t643 t644 t645 t646 t647 t648 t649 t650 t651 t652 t653 t654 t655 t656 t657 t658 t659 t660 t661 t662 t663 t664 t665 t666 t667 t668 t669 t670 t671 t672 t673 t674 t675 t676 t677 t678 t679 t680 t681 t682 t683 t684 t685 t686 : Value) (wc : World), Aside0 (Kd.C (Kd.int .i64) wc Ap P.length P) → Aside0 (Kd.C (Kd.int .i64) wc Al Lp.length Lp) → Aside0 (Below w.heap.size w wc) → K1 ⟨#[.slice A0 l0.length c0, .int .i64 a1, .int .i64 a2, .slice A3 l3.length c3, .int .i64 a4, .int .i64 a5, u6, u7, u8, u9, u10, u11, t12, .int .i64 pl, .bool ok, .int .i64 pl, .bool ok, .slice Ap P.length cp, .bool one, .slice Aq P.length cq, .bool one, .string en, .bool one, .string en, .bool one, .slice Al Lp.length cl, .bool five, .slice Am Lp.length cm, .bool five, .int .i64 un, .bool five, .int .i64 un, .bool five, .int .i64 nx, .bool one, .int .i64 nx, .bool one, t37, t38, t39, t40, t41, t42, t43, t44, t45, t46, t47, t48, t49, t50, t51, t52, t53, t54, t55, t56, t57, t58, t59, t60, t61, t62, t63, t64, t65, t66, t67, t68, t69, t70, t71, t72, t73, t74, t75, t76, t77, t78, t79, t80, t81, t82, t83, t84, t85, t86, t87, t88, t89, t90, t91, t92, t93, t94, t95, t96, t97, t98, t99, t100, t101, t102, t103, t104, t105, t106, t107, t108, t109, t110, t111, t112, t113, t114, t115, t116, t117, t118, t119, t120, t121, t122, t123, t124, t125, t126, t127, t128, t129, t130, t131, t132, t133, t134, t135, t136, t137, t138, t139, t140, t141, t142, t143, t144, t145, t146, t147, t148, t149, t150, t151, t152, t153, t154, t155, t156, t157, t158, t159, t160, t161, t162, t163, t164, t165, t166, t167, t168, t169, t170, t171, t172, t173, t174, t175, t176, t177, t178, t179, t180, t181, t182, t183, t184, t185, t186, t187, t188, t189, t190, t191, t192, t193, t194, t195, t196, t197, t198, t199, t200, t201, t202, t203, t204, t205, t206, t207, t208, t209, t210, t211, t212, t213, t214, t215, t216, t217, t218, t219, t220, t221, t222, t223, t224, t225, t226, t227, t228, t229, t230, t231, t232, t233, t234, t235, t236, t237, t238, t239, t240, t241, t242, t243, t244, t245, t246, t247, t248, t249, t250, t251, t252, t253, t254, t255, t256, t257, t258, t259, t260, t261, t262, t263, t264, t265, t266, t267, t268, t269, t270, t271, t272, t273, t274, t275, t276, t277, t278, t279, t280, t281, t282, t283, t284, t285, t286, t287, t288, t289, t290, t291, t292, t293, t294, t295, t296, t297, t298, t299, t300, t301, t302, t303, t304, t305, t306, t307, t308, t309, t310, t311, t312, t313, t314, t315, t316, t317, t318, t319, t320, t321, t322, t323, t324, t325, t326, t327, t328, t329, t330, t331, t332, t333, t334, t335, t336, t337, t338, t339, t340, t341, t342, t343, t344, t345, t346, t347, t348, t349, t350, t351, t352, t353, t354, t355, t356, t357, t358, t359, t360, t361, t362, t363, t364, t365, t366, t367, t368, t369, t370, t371, t372, t373, t374, t375, t376, t377, t378, t379, t380, t381, t382, t383, t384, t385, t386, t387, t388, t389, t390, t391, t392, t393, t394, t395, t396, t397, t398, t399, t400, t401, t402, t403, t404, t405, t406, t407, t408, t409, t410, t411, t412, t413, t414, t415, t416, t417, t418, t419, t420, t421, t422, t423, t424, t425, t426, t427, t428, t429, t430, t431, t432, t433, t434, t435, t436, t437, t438, t439, t440, t441, t442, t443, t444, t445, t446, t447, t448, t449, t450, t451, t452, t453, t454, t455, t456, t457, t458, t459, t460, t461, t462, t463, t464, t465, t466, t467, t468, t469, t470, t471, t472, t473, t474, t475, t476, t477, t478, t479, t480, t481, t482, t483, t484, t485, t486, t487, t488, t489, t490, t491, t492, t493, t494, t495, t496, t497, t498, t499, t500, t501, t502, t503, t504, t505, t506, t507, t508, t509, t510, t511, t512, t513, t514, t515, t516, t517, t518, t519, t520, t521, t522, t523, t524, t525, t526, t527, t528, t529, t530, t531, t532, t533, t534, t535, t536, t537, t538, t539, t540, t541, t542, t543, t544, t545, t546, t547, t548, t549, t550, t551, t552, t553, t554, t555, t556, t557, t558, t559, t560, t561, t562, t563, t564, t565, t566, t567, t568, t569, t570, t571, t572, t573, t574, t575, t576, t577, t578, t579, t580, t581, t582, t583, t584, t585, t586, t587, t588, t589, t590, t591, t592, t593, t594, t595, t596, t597, t598, t599, t600, t601, t602, t603, t604, t605, t606, t607, t608, t609, t610, t611, t612, t613, t614, t615, t616, t617, t618, t619, t620, t621, t622, t623, t624, t625, t626, t627, t628, t629, t630, t631, t632, t633, t634, t635, t636, t637, t638, t639, t640, t641, t642, t643, t644, t645, t646, t647, t648, t649, t650, t651, t652, t653, t654, t655, t656, t657, t658, t659, t660, t661, t662, t663, t664, t665, t666, t667, t668, t669, t670, t671, t672, t673, t674, t675, t676, t677, t678, t679, t680, t681, t682, t683, t684, t685, t686], []⟩ wc) :
    Code.wp Try.prog (hd (nth 15 bodyC)) (Exit.then K (Exit.then K1 Q)) ⟨#[.slice A0 l0.length c0, .int .i64 a1, .int .i64 a2, .slice A3 l3.length c3, .int .i64 a4, .int .i64 a5, u6, u7, u8, u9, u10, u11, u12, .int .i64 pl, .bool ok, .int .i64 pl, .bool ok, .slice Ap P.length cp, .bool one, .slice Aq P.length cq, .bool one, .string en, .bool one, .string en, .bool one, .slice Al Lp.length cl, .bool five, .slice Am Lp.length cm, .bool five, .int .i64 un, .bool five, .int .i64 un, .bool five, .int .i64 nx, .bool one, .int .i64 nx, .bool one, u37, u38, u39, u40, u41, u42, u43, u44, u45, u46, u47, u48, u49, u50, u51, u52, u53, u54, u55, u56, u57, u58, u59, u60, u61, u62, u63, u64, u65, u66, u67, u68, u69, u70, u71, u72, u73, u74, u75, u76, u77, u78, u79, u80, u81, u82, u83, u84, u85, u86, u87, u88, u89, u90, u91, u92, u93, u94, u95, u96, u97, u98, u99, u100, u101, u102, u103, u104, u105, u106, u107, u108, u109, u110, u111, u112, u113, u114, u115, u116, u117, u118, u119, u120, u121, u122, u123, u124, u125, u126, u127, u128, u129, u130, u131, u132, u133, u134, u135, u136, u137, u138, u139, u140, u141, u142, u143, u144, u145, u146, u147, u148, u149, u150, u151, u152, u153, u154, u155, u156, u157, u158, u159, u160, u161, u162, u163, u164, u165, u166, u167, u168, u169, u170, u171, u172, u173, u174, u175, u176, u177, u178, u179, u180, u181, u182, u183, u184, u185, u186, u187, u188, u189, u190, u191, u192, u193, u194, u195, u196, u197, u198, u199, u200, u201, u202, u203, u204, u205, u206, u207, u208, u209, u210, u211, u212, u213, u214, u215, u216, u217, u218, u219, u220, u221, u222, u223, u224, u225, u226, u227, u228, u229, u230, u231, u232, u233, u234, u235, u236, u237, u238, u239, u240, u241, u242, u243, u244, u245, u246, u247, u248, u249, u250, u251, u252, u253, u254, u255, u256, u257, u258, u259, u260, u261, u262, u263, u264, u265, u266, u267, u268, u269, u270, u271, u272, u273, u274, u275, u276, u277, u278, u279, u280, u281, u282, u283, u284, u285, u286, u287, u288, u289, u290, u291, u292, u293, u294, u295, u296, u297, u298, u299, u300, u301, u302, u303, u304, u305, u306, u307, u308, u309, u310, u311, u312, u313, u314, u315, u316, u317, u318, u319, u320, u321, u322, u323, u324, u325, u326, u327, u328, u329, u330, u331, u332, u333, u334, u335, u336, u337, u338, u339, u340, u341, u342, u343, u344, u345, u346, u347, u348, u349, u350, u351, u352, u353, u354, u355, u356, u357, u358, u359, u360, u361, u362, u363, u364, u365, u366, u367, u368, u369, u370, u371, u372, u373, u374, u375, u376, u377, u378, u379, u380, u381, u382, u383, u384, u385, u386, u387, u388, u389, u390, u391, u392, u393, u394, u395, u396, u397, u398, u399, u400, u401, u402, u403, u404, u405, u406, u407, u408, u409, u410, u411, u412, u413, u414, u415, u416, u417, u418, u419, u420, u421, u422, u423, u424, u425, u426, u427, u428, u429, u430, u431, u432, u433, u434, u435, u436, u437, u438, u439, u440, u441, u442, u443, u444, u445, u446, u447, u448, u449, u450, u451, u452, u453, u454, u455, u456, u457, u458, u459, u460, u461, u462, u463, u464, u465, u466, u467, u468, u469, u470, u471, u472, u473, u474, u475, u476, u477, u478, u479, u480, u481, u482, u483, u484, u485, u486, u487, u488, u489, u490, u491, u492, u493, u494, u495, u496, u497, u498, u499, u500, u501, u502, u503, u504, u505, u506, u507, u508, u509, u510, u511, u512, u513, u514, u515, u516, u517, u518, u519, u520, u521, u522, u523, u524, u525, u526, u527, u528, u529, u530, u531, u532, u533, u534, u535, u536, u537, u538, u539, u540, u541, u542, u543, u544, u545, u546, u547, u548, u549, u550, u551, u552, u553, u554, u555, u556, u557, u558, u559, u560, u561, u562, u563, u564, u565, u566, u567, u568, u569, u570, u571, u572, u573, u574, u575, u576, u577, u578, u579, u580, u581, u582, u583, u584, u585, u586, u587, u588, u589, u590, u591, u592, u593, u594, u595, u596, u597, u598, u599, u600, u601, u602, u603, u604, u605, u606, u607, u608, u609, u610, u611, u612, u613, u614, u615, u616, u617, u618, u619, u620, u621, u622, u623, u624, u625, u626, u627, u628, u629, u630, u631, u632, u633, u634, u635, u636, u637, u638, u639, u640, u641, u642, u643, u644, u645, u646, u647, u648, u649, u650, u651, u652, u653, u654, u655, u656, u657, u658, u659, u660, u661, u662, u663, u664, u665, u666, u667, u668, u669, u670, u671, u672, u673, u674, u675, u676, u677, u678, u679, u680, u681, u682, u683, u684, u685, u686], []⟩ wr := by
  conv => arg 2; whnf
  conv at hc => enter [a', w', 1]; arg 2; whnf
  dsimp only at hK1
  cases one with
  | false =>
    go_wp2
    repeat (go_quiet (fail); try go_wp2)
    apply hK1
    exact ⟨by repeat (first | exact HP.out | (with_reducible refine Kd.C_alloc ?_ _) | (with_reducible refine Kd.C_drewN ?_ _) | (with_reducible refine Kd.C_drew ?_))⟩
    exact ⟨by repeat (first | exact HL.out | (with_reducible refine Kd.C_alloc ?_ _) | (with_reducible refine Kd.C_drewN ?_ _) | (with_reducible refine Kd.C_drew ?_))⟩
    exact ⟨by repeat (first | (with_reducible first | exact HB.out | apply below_alloc | apply pw_below_drewN | apply below_drew1) | exact HB.out)⟩
  | true =>
    obtain ⟨n1, n2⟩ := F.out.plen rfl
    have n3 := F.out.short
    have g0 := F.out.p0 rfl
    have d1 : decide ((P.length : Int) < 1) = false := decide_eq_false (by omega)
    have d2 : decide (P.length < 1) = false := decide_eq_false (by omega)
    have d3 : decide ((l0.length : Int) < (P.length : Int)) = false := decide_eq_false (by omega)
    have d4 : decide (l0.length < P.length) = false := decide_eq_false (by omega)
    have d5 : (rd P 0 != a1) = false := bne_eq_false_iff_eq.mpr g0
    have d6 : (rd P 0 == a1) = true := beq_iff_eq.mpr g0
    have pa : 0 ≤ (0 : Int) := by omega
    have qa : (0 : Int) < (P.length : Int) := by omega
    obtain ⟨ada, ea, hxa⟩ := Kd.at_int HP.out (0 : Int) pa qa
    cases ea
    have qia : (0 < P.length) = True := eq_true (by omega)
    (try rw [show ((0 : Int)).toNat = 0 from rfl] at hxa)
    (try rw [Addr.add_zero'] at hxa)
    have pba : decide (0 ≤ (0 : Int)) = true := decide_eq_true pa
    have qba : decide ((0 : Int) < (P.length : Int)) = true := decide_eq_true qa
    replace pa := eq_true pa
    replace qa := eq_true qa
    clear g0
    have N1 := Aside0.mk n1
    have N2 := Aside0.mk n2
    have N3 := Aside0.mk n3
    clear n1 n2 n3
    go_wp2
    repeat (go_quiet (fail); try go_wp2)
    go_loopg [265] P.length (fun kq v265 w' => ∃ (i : Int), v265 = .int .i64 i ∧ Aside0 (0 ≤ i ∧ i + (kq : Int) = P.length) ∧ Aside0 (Kd.C (Kd.int .i64) w' (some ada) P.length P) ∧ Aside0 (Kd.C (Kd.int .i64) w' Al Lp.length Lp) ∧ Aside0 (Below w.heap.size w w'))
    case atStart => exact ⟨0, by first | rfl | (simp; done), ⟨by omega⟩, ⟨by repeat (first | exact HP.out | (with_reducible refine Kd.C_alloc ?_ _) | (with_reducible refine Kd.C_drewN ?_ _) | (with_reducible refine Kd.C_drew ?_))⟩, ⟨by repeat (first | exact HL.out | (with_reducible refine Kd.C_alloc ?_ _) | (with_reducible refine Kd.C_drewN ?_ _) | (with_reducible refine Kd.C_drew ?_))⟩, ⟨by repeat (first | (with_reducible first | exact HB.out | apply below_alloc | apply pw_below_drewN | apply below_drew1) | exact HB.out)⟩⟩
    case round =>
      clear HP HL HB hxa pa qa pba qba qia d5 d6
      obtain ⟨i, rfl, HI, HP, HL, HB⟩ := hrel
      have hi := HI.out
      clear HI
      have n1 := N1.out
      have n2 := N2.out
      have n3 := N3.out
      by_cases c : i < (P.length : Int)
      · cases gk with
        | zero => omega
        | succ k1 =>
          have cb : decide (i < (P.length : Int)) = true := decide_eq_true c
          have A1 := Aside0.mk (F.out.pnew rfl i hi.1 c)
          have pb : 0 ≤ (i : Int) := hi.1
          have qb : (i : Int) < (P.length : Int) := c
          obtain ⟨adb, eb, hxb⟩ := Kd.at_int HP.out (i : Int) pb qb
          cases eb
          have pbb : decide (0 ≤ (i : Int)) = true := decide_eq_true pb
          have qbb : decide ((i : Int) < (P.length : Int)) = true := decide_eq_true qb
          replace pb := eq_true pb
          replace qb := eq_true qb
          obtain ⟨yt, hyt⟩ : ∃ y_ : List Int, y_ = P.take i.toNat := ⟨_, rfl⟩
          rw [← hyt] at A1
          have q92 : (i : Int) ≤ ((P.length : Int) : Int) := by omega
          obtain ⟨i092, hi092, _, hsz92, _⟩ := info_parts info3
          have hroom92 : P.length ≤ cp := HPc.out
          have hC92 : Kd.C (Kd.int .i64) wr (some ada) P.length P := HP.out
          have hcut92 := cut_to (P := Try.prog) 22 3 .i64 Try.underlying22 hi092 (some ada) P.length cp i hi.1 q92 hroom92
          have hr92 := Kd.C_take (m := (i : Int).toNat) hC92 (by omega)
          have hy92 : yt.length = (i : Int).toNat := (by rw [hyt, List.length_take]; omega)
          rw [← hyt] at hr92
          rw [← hy92] at hcut92
          have HT := Aside0.mk hr92
          have HTc := Aside0.mk (show yt.length ≤ cp from by omega)
          have KY92 := Aside0.mk hy92
          have KL92 := Aside0.mk (show (i : Int).toNat ≤ P.length from by omega)
          clear hr92 hC92 hroom92 hi092 hsz92 hy92 hyt
          replace q92 := eq_true q92
          by_cases e : i > 0
          · have eb : decide (0 < i) = true := decide_eq_true e
            obtain ⟨ji, hji⟩ : ∃ j_ : Int, (wrap64 (i - 1)) = j_ := ⟨_, rfl⟩
            have hji2 : ji = i - 1 := by rw [← hji]; unfold wrap64; omega
            have r1 := F.out.prng rfl ji (by omega) (by omega)
            have r2 := F.out.pnext rfl i e c
            rw [hji] at r2
            have hjiw : (IntKind.i64.wrap (i - 1)) = ji := (i64_w _).trans hji
            have pc : 0 ≤ (ji : Int) := by omega
            have qc : (ji : Int) < (P.length : Int) := by omega
            obtain ⟨adc, ec, hxc⟩ := Kd.at_int HP.out (ji : Int) pc qc
            cases ec
            have pbc : decide (0 ≤ (ji : Int)) = true := decide_eq_true pc
            have qbc : decide ((ji : Int) < (P.length : Int)) = true := decide_eq_true qc
            replace pc := eq_true pc
            replace qc := eq_true qc
            have pd : 0 ≤ ((rd P ji) : Int) := r1.1
            have qd : ((rd P ji) : Int) < (l0.length : Int) := r1.2
            obtain ⟨add, ed, hxd⟩ := Kd.at_int HR0.out ((rd P ji) : Int) pd qd
            cases ed
            replace hxd := (HB.out.cell (World.block_lt_of_cell? w _ hxd)).trans hxd
            have pbd : decide (0 ≤ ((rd P ji) : Int)) = true := decide_eq_true pd
            have qbd : decide (((rd P ji) : Int) < (l0.length : Int)) = true := decide_eq_true qd
            replace pd := eq_true pd
            replace qd := eq_true qd
            have f1 : ((rd P i) == (wrap64 ((rd P ji) + (rd l0 (rd P ji))))) = true := beq_iff_eq.mpr r2
            have f2 : ((rd P i) != (wrap64 ((rd P ji) + (rd l0 (rd P ji))))) = false := bne_eq_false_iff_eq.mpr r2
            have hnx : wrap64 (i + 1) = i + 1 := by unfold wrap64; omega
            have HX := Aside0.mk hnx
            have HI := Aside0.mk hi
            have NC := Aside0.mk c
            clear hnx hi c e r1 r2 hji hji2 n1 n2 n3
            go_wp2_with (first | (go_at_call 27; (with_reducible refine (laws_lHas.calls k _ _ yt (rd P i) false _ ?side1 ?side2 A1.out).mono ?_); (case side1 => exact (by repeat (first | (with_reducible exact HT.out) | (with_reducible refine Kd.C_alloc ?_ _) | (with_reducible refine Kd.C_drewN ?_ _) | (with_reducible refine Kd.C_drew ?_) | exact HT.out))); (case side2 => exact HTc.out); rintro e w' ⟨rfl, ⟨nd, rfl⟩⟩; (try first | exact ⟨rfl, _, World.drewN_drewN _ _ _⟩ | exact ⟨rfl, _, Eq.trans (World.drewN_drewN _ _ _) (congrArg (World.drewN _) (Nat.add_assoc _ _ _))⟩); (try dsimp only)))
            repeat (go_quiet (first | (go_at_call 27; (with_reducible refine (laws_lHas.calls k _ _ yt (rd P i) false _ ?side1 ?side2 A1.out).mono ?_); (case side1 => exact (by repeat (first | (with_reducible exact HT.out) | (with_reducible refine Kd.C_alloc ?_ _) | (with_reducible refine Kd.C_drewN ?_ _) | (with_reducible refine Kd.C_drew ?_) | exact HT.out))); (case side2 => exact HTc.out); rintro e w' ⟨rfl, ⟨nd, rfl⟩⟩; (try first | exact ⟨rfl, _, World.drewN_drewN _ _ _⟩ | exact ⟨rfl, _, Eq.trans (World.drewN_drewN _ _ _) (congrArg (World.drewN _) (Nat.add_assoc _ _ _))⟩); (try dsimp only))); try go_wp2_with (first | (go_at_call 27; (with_reducible refine (laws_lHas.calls k _ _ yt (rd P i) false _ ?side1 ?side2 A1.out).mono ?_); (case side1 => exact (by repeat (first | (with_reducible exact HT.out) | (with_reducible refine Kd.C_alloc ?_ _) | (with_reducible refine Kd.C_drewN ?_ _) | (with_reducible refine Kd.C_drew ?_) | exact HT.out))); (case side2 => exact HTc.out); rintro e w' ⟨rfl, ⟨nd, rfl⟩⟩; (try first | exact ⟨rfl, _, World.drewN_drewN _ _ _⟩ | exact ⟨rfl, _, Eq.trans (World.drewN_drewN _ _ _) (congrArg (World.drewN _) (Nat.add_assoc _ _ _))⟩); (try dsimp only))))
            go_roundg k1
            case measure => omega
            case rel => exact ⟨wrap64 (i + 1), by first | rfl | (simp; done), ⟨by have := HX.out; have := HI.out; have := NC.out; omega⟩, ⟨by repeat (first | exact HP.out | (with_reducible refine Kd.C_alloc ?_ _) | (with_reducible refine Kd.C_drewN ?_ _) | (with_reducible refine Kd.C_drew ?_))⟩, ⟨by repeat (first | exact HL.out | (with_reducible refine Kd.C_alloc ?_ _) | (with_reducible refine Kd.C_drewN ?_ _) | (with_reducible refine Kd.C_drew ?_))⟩, ⟨by repeat (first | (with_reducible first | exact HB.out | apply below_alloc | apply pw_below_drewN | apply below_drew1) | exact HB.out)⟩⟩
          · have eb : decide (0 < i) = false := decide_eq_false e
            have hnx : wrap64 (i + 1) = i + 1 := by unfold wrap64; omega
            have HX := Aside0.mk hnx
            have HI := Aside0.mk hi
            have NC := Aside0.mk c
            clear hnx hi c e n1 n2 n3
            go_wp2_with (first | (go_at_call 27; (with_reducible refine (laws_lHas.calls k _ _ yt (rd P i) false _ ?side1 ?side2 A1.out).mono ?_); (case side1 => exact (by repeat (first | (with_reducible exact HT.out) | (with_reducible refine Kd.C_alloc ?_ _) | (with_reducible refine Kd.C_drewN ?_ _) | (with_reducible refine Kd.C_drew ?_) | exact HT.out))); (case side2 => exact HTc.out); rintro e w' ⟨rfl, ⟨nd, rfl⟩⟩; (try first | exact ⟨rfl, _, World.drewN_drewN _ _ _⟩ | exact ⟨rfl, _, Eq.trans (World.drewN_drewN _ _ _) (congrArg (World.drewN _) (Nat.add_assoc _ _ _))⟩); (try dsimp only)))
            repeat (go_quiet (first | (go_at_call 27; (with_reducible refine (laws_lHas.calls k _ _ yt (rd P i) false _ ?side1 ?side2 A1.out).mono ?_); (case side1 => exact (by repeat (first | (with_reducible exact HT.out) | (with_reducible refine Kd.C_alloc ?_ _) | (with_reducible refine Kd.C_drewN ?_ _) | (with_reducible refine Kd.C_drew ?_) | exact HT.out))); (case side2 => exact HTc.out); rintro e w' ⟨rfl, ⟨nd, rfl⟩⟩; (try first | exact ⟨rfl, _, World.drewN_drewN _ _ _⟩ | exact ⟨rfl, _, Eq.trans (World.drewN_drewN _ _ _) (congrArg (World.drewN _) (Nat.add_assoc _ _ _))⟩); (try dsimp only))); try go_wp2_with (first | (go_at_call 27; (with_reducible refine (laws_lHas.calls k _ _ yt (rd P i) false _ ?side1 ?side2 A1.out).mono ?_); (case side1 => exact (by repeat (first | (with_reducible exact HT.out) | (with_reducible refine Kd.C_alloc ?_ _) | (with_reducible refine Kd.C_drewN ?_ _) | (with_reducible refine Kd.C_drew ?_) | exact HT.out))); (case side2 => exact HTc.out); rintro e w' ⟨rfl, ⟨nd, rfl⟩⟩; (try first | exact ⟨rfl, _, World.drewN_drewN _ _ _⟩ | exact ⟨rfl, _, Eq.trans (World.drewN_drewN _ _ _) (congrArg (World.drewN _) (Nat.add_assoc _ _ _))⟩); (try dsimp only))))
            go_roundg k1
            case measure => omega
            case rel => exact ⟨wrap64 (i + 1), by first | rfl | (simp; done), ⟨by have := HX.out; have := HI.out; have := NC.out; omega⟩, ⟨by repeat (first | exact HP.out | (with_reducible refine Kd.C_alloc ?_ _) | (with_reducible refine Kd.C_drewN ?_ _) | (with_reducible refine Kd.C_drew ?_))⟩, ⟨by repeat (first | exact HL.out | (with_reducible refine Kd.C_alloc ?_ _) | (with_reducible refine Kd.C_drewN ?_ _) | (with_reducible refine Kd.C_drew ?_))⟩, ⟨by repeat (first | (with_reducible first | exact HB.out | apply below_alloc | apply pw_below_drewN | apply below_drew1) | exact HB.out)⟩⟩
      · have cb : decide (i < (P.length : Int)) = false := decide_eq_false c
        obtain ⟨jl, hjl⟩ : ∃ j_ : Int, (wrap64 ((P.length : Int) - 1)) = j_ := ⟨_, rfl⟩
        have hjl2 : jl = P.length - 1 := by rw [← hjl]; unfold wrap64; omega
        have r1 := F.out.prng rfl jl (by omega) (by omega)
        have hjlw : (IntKind.i64.wrap ((P.length : Int) - 1)) = jl := (i64_w _).trans hjl
        have pc : 0 ≤ (jl : Int) := by omega
        have qc : (jl : Int) < (P.length : Int) := by omega
        obtain ⟨adc, ec, hxc⟩ := Kd.at_int HP.out (jl : Int) pc qc
        cases ec
        have pbc : decide (0 ≤ (jl : Int)) = true := decide_eq_true pc
        have qbc : decide ((jl : Int) < (P.length : Int)) = true := decide_eq_true qc
        replace pc := eq_true pc
        replace qc := eq_true qc
        have pd : 0 ≤ ((rd P jl) : Int) := r1.1
        have qd : ((rd P jl) : Int) < (l0.length : Int) := r1.2
        obtain ⟨add, ed, hxd⟩ := Kd.at_int HR0.out ((rd P jl) : Int) pd qd
        cases ed
        replace hxd := (HB.out.cell (World.block_lt_of_cell? w _ hxd)).trans hxd
        have pbd : decide (0 ≤ ((rd P jl) : Int)) = true := decide_eq_true pd
        have qbd : decide (((rd P jl) : Int) < (l0.length : Int)) = true := decide_eq_true qd
        replace pd := eq_true pd
        replace qd := eq_true qd
        have HJ := Aside0.mk hjl
        clear hi c r1 hjl hjl2 n1 n2 n3
        go_upto_region 28 with (fail)
        repeat (go_quiet (fail); go_upto_region 28 with (fail))
        refine sec28 k _ c0 l0 a1 a2 _ _ _ _ _ w pl ok P en Lp five un nx _ _ _ _ cp _ cl _ HR0 HC0 HPc HLc F _ ?hp ?hl ?hw _ ?hb _ _ _ _ _ _ _ _ _ _ _ _ _ _ _ _ _ _ _ _ _ _ _ _ _ _ _ _ _ _ _ _ _ _ _ _ _ _ _ _ _ _ _ _ _ _ _ _ _ _ _ _ _ _ _ _ _ _ _ _ _ _ _ _ _ _ _ _ _ _ _ _ _ _ _ _ _ _ _ _ _ _ _ _ _ _ _ _ _ _ _ _ _ _ _ _ _ _ _ _ _ _ _ _ _ _ _ _ _ _ _ _ _ _ _ _ _ _ _ _ _ _ _ _ _ _ _ _ _ _ _ _ _ _ _ _ _ _ _ _ _ _ _ _ _ _ _ _ _ _ _ _ _ _ _ _ _ _ _ _ _ _ _ _ _ _ _ _ _ _ _ _ _ _ _ _ _ _ _ _ _ _ _ _ _ _ _ _ _ _ _ _ _ _ _ _ _ _ _ _ _ _ _ _ _ _ _ _ _ _ _ _ _ _ _ _ _ _ _ _ _ _ _ _ _ _ _ _ _ _ _ _ _ _ _ _ _ _ _ _ _ _ _ _ _ _ _ _ _ _ _ _ _ _ _ _ _ _ _ _ _ _ _ _ _ _ _ _ _ _ _ _ _ _ _ _ _ _ _ _ _ _ _ _ _ _ _ _ _ _ _ _ _ _ _ _ _ _ _ _ _ _ _ _ _ _ _ _ _ _ _ _ _ _ _ _ _ _ _ _ _ _ _ _ _ _ _ _ _ _ _ _ _ _ _ _ _ _ _ _ _ _ _ _ _ _ _ _ _ _ _ _ _ _ _ _ _ _ _ _ _ _ _ _ _ _ _ _ _ _ _ _ _ _ _ _ _ _ _ _ _ _ _ _ _ _ _ _ _ _ _ _ _ _ _ _ _ _ _ _ _ _ _ _ _ _ _ _ _ _ _ _ _ _ _ _ _ _ _ _ _ _ _ _ _ _ _ _ _ _ _ _ _ _ _ _ _ _ _ _ _ _ _ _ _ _ _ _ _ _ _ _ _ _ _ _ _ _ _ _ _ _ _ _ _ _ _ _ _ _ _ _ _ _ _ _ _ _ _ _ _ _ _ _ _ _ _ _ _ _ _ _ _ _ _ _ _ _ _ _ _ _ _ _ _ _ _ _ _ _ _ _ _ _ _ _ _ _ _ _ _ _ _ _ _ _ _ _ _ _ _ _ _ _ _ _ _ _ _ _ _ _ _ _ _ _ _ _ _ _ _ _ _ _ _ _ _ _ _ _ _ _ _ _ _ _ _ _ _ _ _ _ _ _ _ _ _ _ _ _ _ _ _ _ _ _ _ _ _ _ _ _ _ _ _ _ _ _ _ _ _ _ _ _ _ _ _ _ _ _ _ _ _ _ _ _ _ _ _ _ _ _ _ _ _ _ _ _ _ _ _ _ _ _ _ _ _ _ _ _ _ _ _ _ _ _ _ _ _ _ _ _ _ _ _ _ _ _ _ ?hcc ?hk
        case hb => exact ⟨by rw [HJ.out]⟩
        case hp => exact ⟨by repeat (first | exact HP.out | (with_reducible refine Kd.C_alloc ?_ _) | (with_reducible refine Kd.C_drewN ?_ _) | (with_reducible refine Kd.C_drew ?_))⟩
        case hl => exact ⟨by repeat (first | exact HL.out | (with_reducible refine Kd.C_alloc ?_ _) | (with_reducible refine Kd.C_drewN ?_ _) | (with_reducible refine Kd.C_drew ?_))⟩
        case hw => exact ⟨by repeat (first | (with_reducible first | exact HB.out | apply below_alloc | apply pw_below_drewN | apply below_drew1) | exact HB.out)⟩
        case hcc => assumption
        case hk =>
          clear HP HL HB
          intro y12 y37 y38 y39 y41 y42 y43 y44 y45 y46 y47 y48 y49 y50 y51 y52 y53 y54 y55 y56 y57 y58 y59 y60 y61 y62 y63 y64 y65 y66 y67 y68 y69 y70 y71 y72 y73 y74 y75 y76 y77 y78 y79 y80 y81 y82 y83 y84 y85 y86 y87 y88 y89 y90 y91 y92 y93 y94 y95 y96 y97 y98 y99 y100 y101 y102 y103 y104 y105 y106 y107 y108 y109 y110 y111 y112 y113 y114 y115 y116 y117 y118 y119 y120 y121 y122 y123 y124 y125 y126 y127 y128 y129 y130 y131 y132 y133 y134 y135 y136 y137 y138 y139 y140 y141 y142 y143 y144 y145 y146 y147 y148 y149 y150 y151 y152 y153 y154 y155 y156 y157 y158 y159 y160 y161 y162 y163 y164 y165 y166 y167 y168 y169 y170 y171 y172 y173 y174 y175 y176 y177 y178 y179 y180 y181 y182 y183 y184 y185 y186 y187 y188 y189 y190 y191 y192 y193 y194 y195 y196 y197 y198 y199 y200 y201 y202 y203 y204 y205 y206 y207 y208 y209 y210 y211 y212 y213 y214 y215 y216 y217 y218 y219 y220 y221 y222 y223 y224 y225 y226 y227 y228 y229 y230 y231 y232 y233 y234 y235 y236 y237 y238 y239 y240 y241 y242 y243 y244 y245 y246 y247 y248 y249 y250 y251 y252 y253 y254 y255 y256 y257 y258 y259 y260 y261 y262 y263 y264 y265 y266 y267 y268 y269 y270 y271 y272 y273 y274 y275 y276 y277 y278 y279 y280 y281 y282 y283 y284 y285 y286 y287 y288 y289 y290 y291 y292 y293 y294 y295 y296 y297 y298 y299 y300 y301 y302 y303 y304 y305 y306 y307 y308 y309 y310 y311 y312 y313 y314 y315 y316 y317 y318 y319 y320 y321 y322 y323 y324 y325 y326 y327 y328 y329 y330 y331 y332 y333 y334 y335 y336 y337 y338 y339 y340 y341 y342 y343 y344 y345 y346 y347 y348 y349 y350 y351 y352 y353 y354 y355 y356 y357 y358 y359 y360 y361 y362 y363 y364 y365 y366 y367 y368 y369 y370 y371 y372 y373 y374 y375 y376 y377 y378 y379 y380 y381 y382 y383 y384 y385 y386 y387 y388 y389 y390 y391 y392 y393 y394 y395 y396 y397 y398 y399 y400 y401 y402 y403 y404 y405 y406 y407 y408 y409 y410 y411 y412 y413 y414 y415 y416 y417 y418 y419 y420 y421 y422 y423 y424 y425 y426 y427 y428 y429 y430 y431 y432 y433 y434 y435 y436 y437 y438 y439 y440 y441 y442 y443 y444 y445 y446 y447 y448 y449 y450 y451 y452 y453 y454 y455 y456 y457 y458 y459 y460 y461 y462 y463 y464 y465 y466 y467 y468 y469 y470 y471 y472 y473 y474 y475 y476 y477 y478 y479 y480 y481 y482 y483 y484 y485 y486 y487 y488 y489 y490 y491 y492 y493 y494 y495 y496 y497 y498 y499 y500 y501 y502 y503 y504 y505 y506 y507 y508 y509 y510 y511 y512 y513 y514 y515 y516 y517 y518 y519 y520 y521 y522 y523 y524 y525 y526 y527 y528 y529 y530 y531 y532 y533 y534 y535 y536 y537 y538 y539 y540 y541 y542 y543 y544 y545 y546 y547 y548 y549 y550 y551 y552 y553 y554 y555 y556 y557 y558 y559 y560 y561 y562 y563 y564 y565 y566 y567 y568 y569 y570 y571 y572 y573 y574 y575 y576 y577 y578 y579 y580 y581 y582 y583 y584 y585 y586 y587 y588 y589 y590 y591 y592 y593 y594 y595 y596 y597 y598 y599 y600 y601 y602 y603 y604 y605 y606 y607 y608 y609 y610 y611 y612 y613 y614 y615 y616 y617 y618 y619 y620 y621 y622 y623 y624 y625 y626 y627 y628 y629 y630 y631 y632 y633 y634 y635 y636 y637 y638 y639 y640 y641 y642 y643 y644 y645 y646 y647 y648 y649 y650 y651 y652 y653 y654 y655 y656 y657 y658 y659 y660 y661 y662 y663 y664 y665 y666 y667 y668 y669 y670 y671 y672 y673 y674 y675 y676 y677 y678 y679 y680 y681 y682 y683 y684 y685 y686 wc HP HL HB
          go_upto_region 30 with (fail)
          repeat (go_quiet (fail); go_upto_region 30 with (fail))
          cases five with
          | false =>
            go_wp2
            repeat (go_quiet (fail); try go_wp2)
            apply hK1
            exact ⟨by repeat (first | exact HP.out | (with_reducible refine Kd.C_alloc ?_ _) | (with_reducible refine Kd.C_drewN ?_ _) | (with_reducible refine Kd.C_drew ?_))⟩
            exact ⟨by repeat (first | exact HL.out | (with_reducible refine Kd.C_alloc ?_ _) | (with_reducible refine Kd.C_drewN ?_ _) | (with_reducible refine Kd.C_drew ?_))⟩
            exact ⟨by repeat (first | (with_reducible first | exact HB.out | apply below_alloc | apply pw_below_drewN | apply below_drew1) | exact HB.out)⟩
          | true =>
            obtain ⟨m1, m2, m3, m4, m5⟩ := F.out.lpos rfl
            have hb := F.out.lbeh rfl
            have hh := F.out.lhas rfl
            rw [HJ.out] at hb
            rw [← hb] at hh
            have A2 := Aside0.mk hh
            clear hh
            have d1 : decide ((Lp.length : Int) < 1) = false := decide_eq_false (by omega)
            have d2 : decide (Lp.length < 1) = false := decide_eq_false (by omega)
            have d3 : decide (un < 0) = false := decide_eq_false (by omega)
            have d5 : (wrap64 (un + (Lp.length : Int)) != (P.length : Int)) = false := bne_eq_false_iff_eq.mpr m5
            have d6 : (wrap64 (un + (Lp.length : Int)) == (P.length : Int)) = true := beq_iff_eq.mpr m5
            have d7 : (wrap64 (rd P jl + rd l0 (rd P jl)) != rd P un) = false := bne_eq_false_iff_eq.mpr hb
            have d8 : (wrap64 (rd P jl + rd l0 (rd P jl)) == rd P un) = true := beq_iff_eq.mpr hb
            have pe : 0 ≤ (un : Int) := m3
            have qe : (un : Int) < (P.length : Int) := m4
            obtain ⟨ade, ee, hxe⟩ := Kd.at_int HP.out (un : Int) pe qe
            cases ee
            have pbe : decide (0 ≤ (un : Int)) = true := decide_eq_true pe
            have qbe : decide ((un : Int) < (P.length : Int)) = true := decide_eq_true qe
            replace pe := eq_true pe
            replace qe := eq_true qe
            clear m1 m2 m3 m4 m5 hb
            go_wp2_with (first | (go_at_call 27; (with_reducible refine (laws_lHas.calls k _ _ Lp (wrap64 (rd P jl + rd l0 (rd P jl))) true _ ?side1 ?side2 A2.out).mono ?_); (case side1 => repeat (first | exact HL.out | (with_reducible refine Kd.C_alloc ?_ _) | (with_reducible refine Kd.C_drewN ?_ _) | (with_reducible refine Kd.C_drew ?_))); (case side2 => exact HLc.out); rintro e w' ⟨rfl, ⟨nd, rfl⟩⟩; (try first | exact ⟨rfl, _, World.drewN_drewN _ _ _⟩ | exact ⟨rfl, _, Eq.trans (World.drewN_drewN _ _ _) (congrArg (World.drewN _) (Nat.add_assoc _ _ _))⟩); (try dsimp only)))
            repeat (go_quiet (first | (go_at_call 27; (with_reducible refine (laws_lHas.calls k _ _ Lp (wrap64 (rd P jl + rd l0 (rd P jl))) true _ ?side1 ?side2 A2.out).mono ?_); (case side1 => repeat (first | exact HL.out | (with_reducible refine Kd.C_alloc ?_ _) | (with_reducible refine Kd.C_drewN ?_ _) | (with_reducible refine Kd.C_drew ?_))); (case side2 => exact HLc.out); rintro e w' ⟨rfl, ⟨nd, rfl⟩⟩; (try first | exact ⟨rfl, _, World.drewN_drewN _ _ _⟩ | exact ⟨rfl, _, Eq.trans (World.drewN_drewN _ _ _) (congrArg (World.drewN _) (Nat.add_assoc _ _ _))⟩); (try dsimp only))); try go_wp2_with (first | (go_at_call 27; (with_reducible refine (laws_lHas.calls k _ _ Lp (wrap64 (rd P jl + rd l0 (rd P jl))) true _ ?side1 ?side2 A2.out).mono ?_); (case side1 => repeat (first | exact HL.out | (with_reducible refine Kd.C_alloc ?_ _) | (with_reducible refine Kd.C_drewN ?_ _) | (with_reducible refine Kd.C_drew ?_))); (case side2 => exact HLc.out); rintro e w' ⟨rfl, ⟨nd, rfl⟩⟩; (try first | exact ⟨rfl, _, World.drewN_drewN _ _ _⟩ | exact ⟨rfl, _, Eq.trans (World.drewN_drewN _ _ _) (congrArg (World.drewN _) (Nat.add_assoc _ _ _))⟩); (try dsimp only))))
            apply hK1
            exact ⟨by repeat (first | exact HP.out | (with_reducible refine Kd.C_alloc ?_ _) | (with_reducible refine Kd.C_drewN ?_ _) | (with_reducible refine Kd.C_drew ?_))⟩
            exact ⟨by repeat (first | exact HL.out | (with_reducible refine Kd.C_alloc ?_ _) | (with_reducible refine Kd.C_drewN ?_ _) | (with_reducible refine Kd.C_drew ?_))⟩
            exact ⟨by repeat (first | (with_reducible first | exact HB.out | apply below_alloc | apply pw_below_drewN | apply below_drew1) | exact HB.out)⟩
end Go.Proofs.Ytbbkbooiefoihaa.PFnBallsGoOfAll
