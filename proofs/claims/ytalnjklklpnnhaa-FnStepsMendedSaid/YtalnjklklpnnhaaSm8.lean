/- The block over mended bears of the law FnStepsMended's walk, on the road where the pure part's facts hold. Its conditions are these facts, each a hypothesis. -/
import Derived.Test.YtalnjklklpnnhaaSmHead
namespace Go.Proofs.Ytalnjklklpnnhaa.PFnStepsMended
open Go.RowKit Go.Proofs.YtalnjklklpnnhaaW.PrintWords Go.Proofs.YtalnjklklpnnhaaW.PrintLast Go.Proofs.YtalnjklklpnnhaaW.PrintMore
attribute [local go_sem] max2_int min2_int max_two min_two
set_option linter.unusedVariables false
set_option linter.unusedSimpArgs false
set_option maxHeartbeats 16000000 in
set_option maxRecDepth 100000 in
theorem sec8 (k : Nat) (A0 : Option Addr) (c0 : Nat) (l0 : List Int) (A1 : Option Addr) (c1 : Nat) (l1 : List Int) (w : World) (B : List Int) (R C : Int) (M : List Int) (ok : Bool) (S mo ls : Int) (pr ws : Int → Int) (Ab Am Am2 : Option Addr) (cb cm cm2 : Nat) (HAc : Aside0 (B.length ≤ cb)) (HMc : Aside0 (M.length ≤ cm)) (F : Aside0 (Men1 k B R C M ok S mo ls pr ws))
    (wr : World) (HA : Aside0 (Kd.C (Kd.int .i64) wr Ab B.length B)) (HM : Aside0 (Kd.C (Kd.int .i64) wr Am M.length M)) (HB : Aside0 (Below w.heap.size w wr)) (K K1 : Act → World → Prop) (u2 u3 u4 u16 u17 u18 u19 u20 u21 u22 u23 u24 u25 u26 u27 u28 u29 u30 u31 u32 u33 u34 u35 u36 u37 u38 u39 u40 u41 u42 u43 u44 u45 u46 u47 u48 u49 u50 u51 u52 u53 u54 u55 u56 u57 u58 u59 u60 u61 u62 u63 u64 u65 u66 u67 u68 u69 u70 u71 u72 u73 u74 u75 u76 u77 u78 u79 u80 u81 u82 u83 u84 u85 u86 u87 u88 u89 u90 u91 u92 u93 u94 u95 u96 u97 u98 u99 u100 u101 u102 u103 u104 u105 u106 u107 u108 u109 u110 u111 u112 u113 u114 u115 u116 u117 u118 u119 u120 u121 u122 u123 u124 u125 u126 u127 u128 u129 u130 u131 u132 u133 u134 u135 u136 u137 u138 u139 u140 u141 u142 u143 u144 u145 u146 u147 u148 u149 u150 u151 u152 u153 u154 u155 u156 u157 u158 u159 u160 u161 u162 u163 u164 u165 u166 u167 u168 u169 u170 u171 u172 u173 u174 u175 u176 u177 u178 u179 u180 u181 u182 u183 u184 u185 u186 u187 u188 u189 u190 u191 u192 u193 u194 u195 u196 u197 u198 u199 u200 u201 u202 u203 u204 u205 u206 u207 u208 u209 u210 u211 u212 u213 u214 u215 u216 u217 u218 u219 u220 u221 u222 u223 u224 u225 u226 u227 u228 u229 u230 u231 u232 u233 u234 u235 u236 u237 u238 u239 u240 u241 u242 u243 u244 u245 u246 u247 u248 u249 u250 u251 u252 u253 u254 u255 u256 u257 u258 u259 u260 u261 u262 u263 u264 u265 u266 u267 u268 u269 u270 u271 u272 u273 u274 u275 u276 u277 u278 u279 u280 u281 u282 u283 u284 u285 u286 u287 u288 u289 u290 u291 u292 u293 u294 u295 u296 u297 u298 u299 u300 u301 u302 u303 u304 u305 u306 u307 u308 u309 u310 u311 u312 u313 u314 u315 u316 u317 u318 u319 u320 u321 u322 u323 u324 u325 u326 u327 u328 u329 u330 u331 u332 u333 u334 u335 u336 u337 u338 u339 u340 u341 u342 u343 u344 u345 u346 u347 u348 u349 u350 u351 u352 u353 u354 u355 u356 u357 u358 u359 u360 u361 u362 u363 u364 u365 u366 u367 u368 u369 u370 u371 u372 u373 u374 u375 u376 u377 u378 u379 u380 u381 u382 u383 u384 u385 u386 u387 u388 u389 u390 u391 u392 u393 u394 u395 u396 u397 u398 u399 u400 u401 u402 u403 u404 u405 u406 u407 u408 u409 u410 u411 u412 u413 u414 u415 u416 u417 u418 u419 u420 u421 u422 u423 u424 u425 u426 u427 u428 u429 u430 u431 u432 u433 u434 u435 u436 u437 u438 u439 u440 u441 u442 u443 u444 u445 u446 u447 u448 u449 u450 u451 u452 u453 u454 u455 u456 u457 u458 u459 u460 u461 u462 u463 u464 u465 u466 u467 u468 u469 u470 u471 u472 u473 u474 u475 u476 u477 u478 u479 u480 u481 u482 u483 u484 u485 u486 u487 u488 u489 u490 u491 u492 u493 u494 u495 u496 u497 u498 u499 u500 u501 u502 u503 u504 u505 u506 u507 u508 u509 u510 u511 u512 u513 u514 u515 u516 u517 u518 u519 u520 u521 u522 u523 u524 u525 u526 u527 u528 u529 u530 u531 u532 u533 u534 u535 u536 u537 u538 u539 u540 u541 u542 u543 : Value)
    (hc : ∀ a' w', Code.wp Try.prog (tl (nth 8 bodyC)) (Exit.then K1 (bodyPost Try.prog Try.f4 fun e w' => e = Ending.returned (Value.bool true) ∧ Below w.heap.size w w')) a' w' → K a' w')
    (hK1 : ∀ (s2 s3 s4 s5 s6 s7 s8 s9 s10 s11 s12 s13 s14 s15 s16 s17 s18 s19 s20 s21 s22 s23 s24 s25 s26 s27 s28 s29 s30 s31 s32 s33 s34 s35 s36 s37 s38 s39 s40 s41 s42 s43 s44 s45 s46 s47 s48 s49 s50 s51 s52 s53 s54 s55 s56 s57 s58 s59 s60 s61 s62 s63 s64 s65 s66 s67 s68 s69 s70 s71 s72 s73 s74 s75 s76 s77 s78 s79 s80 s81 s82 s83 s84 s85 s86 s87 s88 s89 s90 s91 s92 s93 s94 s95 s96 s97 s98 s99 s100 s101 s102 s103 s104 s105 s106 s107 s108 s109 s110 s111 s112 s113 s114 s115 s116 s117 s118 s119 s120 s121 s122 s123 s124 s125 s126 s127 s128 s129 s130 s131 s132 s133 s134 s135 s136 s137 s138 s139 s140 s141 s142 s143 s144 s145 s146 s147 s148 s149 s150 s151 s152 s153 s154 s155 s156 s157 s158 s159 s160 s161 s162 s163 s164 s165 s166 s167 s168 s169 s170 s171 s172 s173 s174 s175 s176 s177 s178 s179 s180 s181 s182 s183 s184 s185 s186 s187 s188 s189 s190 s191 s192 s193 s194 s195 s196 s197 s198 s199 s200 s201 s202 s203 s204 s205 s206 s207 s208 s209 s210 s211 s212 s213 s214 s215 s216 s217 s218 s219 s220 s221 s222 s223 s224 s225 s226 s227 s228 s229 s230 s231 s232 s233 s234 s235 s236 s237 s238 s239 s240 s241 s242 s243 s244 s245 s246 s247 s248 s249 s250 s251 s252 s253 s254 s255 s256 s257 s258 s259 s260 s261 s262 s263 s264 s265 s266 s267 s268 s269 s270 s271 s272 s273 s274 s275 s276 s277 s278 s279 s280 s281 s282 s283 s284 s285 s286 s287 s288 s289 s290 s291 s292 s293 s294 s295 s296 s297 s298 s299 s300 s301 s302 s303 s304 s305 s306 s307 s308 s309 s310 s311 s312 s313 s314 s315 s316 s317 s318 s319 s320 s321 s322 s323 s324 s325 s326 s327 s328 s329 s330 s331 s332 s333 s334 s335 s336 s337 s338 s339 s340 s341 s342 s343 s344 s345 s346 s347 s348 s349 s350 s351 s352 s353 s354 s355 s356 s357 s358 s359 s360 s361 s362 s363 s364 s365 s366 s367 s368 s369 s370 s371 s372 s373 s374 s375 s376 s377 s378 s379 s380 s381 s382 s383 s384 s385 s386 s387 s388 s389 s390 s391 s392 s393 s394 s395 s396 s397 s398 s399 s400 s401 s402 s403 s404 s405 s406 s407 s408 s409 s410 s411 s412 s413 s414 s415 s416 s417 s418 s419 s420 s421 s422 s423 s424 s425 s426 s427 s428 s429 s430 s431 s432 s433 s434 s435 s436 s437 s438 s439 s440 s441 s442 s443 s444 s445 s446 s447 s448 s449 s450 s451 s452 s453 s454 s455 s456 s457 s458 s459 s460 s461 s462 s463 s464 s465 s466 s467 s468 s469 s470 s471 s472 s473 s474 s475 s476 s477 s478 s479 s480 s481 s482 s483 s484 s485 s486 s487 s488 s489 s490 s491 s492 s493 s494 s495 s496 s497 s498 s499 s500 s501 s502 s503 s504 s505 s506 s507 s508 s509 s510 s511 s512 s513 s514 s515 s516 s517 s518 s519 s520 s521 s522 s523 s524 s525 s526 s527 s528 s529 s530 s531 s532 s533 s534 s535 s536 s537 s538 s539 s540 s541 s542 s543 : Value) (wc : World),  Aside0 (Below w.heap.size w wc) → K1 ⟨#[.slice A0 l0.length c0, .slice A1 l1.length c1, s2, s3, s4, s5, s6, s7, s8, s9, s10, s11, s12, s13, s14, s15, s16, s17, s18, s19, s20, s21, s22, s23, s24, s25, s26, s27, s28, s29, s30, s31, s32, s33, s34, s35, s36, s37, s38, s39, s40, s41, s42, s43, s44, s45, s46, s47, s48, s49, s50, s51, s52, s53, s54, s55, s56, s57, s58, s59, s60, s61, s62, s63, s64, s65, s66, s67, s68, s69, s70, s71, s72, s73, s74, s75, s76, s77, s78, s79, s80, s81, s82, s83, s84, s85, s86, s87, s88, s89, s90, s91, s92, s93, s94, s95, s96, s97, s98, s99, s100, s101, s102, s103, s104, s105, s106, s107, s108, s109, s110, s111, s112, s113, s114, s115, s116, s117, s118, s119, s120, s121, s122, s123, s124, s125, s126, s127, s128, s129, s130, s131, s132, s133, s134, s135, s136, s137, s138, s139, s140, s141, s142, s143, s144, s145, s146, s147, s148, s149, s150, s151, s152, s153, s154, s155, s156, s157, s158, s159, s160, s161, s162, s163, s164, s165, s166, s167, s168, s169, s170, s171, s172, s173, s174, s175, s176, s177, s178, s179, s180, s181, s182, s183, s184, s185, s186, s187, s188, s189, s190, s191, s192, s193, s194, s195, s196, s197, s198, s199, s200, s201, s202, s203, s204, s205, s206, s207, s208, s209, s210, s211, s212, s213, s214, s215, s216, s217, s218, s219, s220, s221, s222, s223, s224, s225, s226, s227, s228, s229, s230, s231, s232, s233, s234, s235, s236, s237, s238, s239, s240, s241, s242, s243, s244, s245, s246, s247, s248, s249, s250, s251, s252, s253, s254, s255, s256, s257, s258, s259, s260, s261, s262, s263, s264, s265, s266, s267, s268, s269, s270, s271, s272, s273, s274, s275, s276, s277, s278, s279, s280, s281, s282, s283, s284, s285, s286, s287, s288, s289, s290, s291, s292, s293, s294, s295, s296, s297, s298, s299, s300, s301, s302, s303, s304, s305, s306, s307, s308, s309, s310, s311, s312, s313, s314, s315, s316, s317, s318, s319, s320, s321, s322, s323, s324, s325, s326, s327, s328, s329, s330, s331, s332, s333, s334, s335, s336, s337, s338, s339, s340, s341, s342, s343, s344, s345, s346, s347, s348, s349, s350, s351, s352, s353, s354, s355, s356, s357, s358, s359, s360, s361, s362, s363, s364, s365, s366, s367, s368, s369, s370, s371, s372, s373, s374, s375, s376, s377, s378, s379, s380, s381, s382, s383, s384, s385, s386, s387, s388, s389, s390, s391, s392, s393, s394, s395, s396, s397, s398, s399, s400, s401, s402, s403, s404, s405, s406, s407, s408, s409, s410, s411, s412, s413, s414, s415, s416, s417, s418, s419, s420, s421, s422, s423, s424, s425, s426, s427, s428, s429, s430, s431, s432, s433, s434, s435, s436, s437, s438, s439, s440, s441, s442, s443, s444, s445, s446, s447, s448, s449, s450, s451, s452, s453, s454, s455, s456, s457, s458, s459, s460, s461, s462, s463, s464, s465, s466, s467, s468, s469, s470, s471, s472, s473, s474, s475, s476, s477, s478, s479, s480, s481, s482, s483, s484, s485, s486, s487, s488, s489, s490, s491, s492, s493, s494, s495, s496, s497, s498, s499, s500, s501, s502, s503, s504, s505, s506, s507, s508, s509, s510, s511, s512, s513, s514, s515, s516, s517, s518, s519, s520, s521, s522, s523, s524, s525, s526, s527, s528, s529, s530, s531, s532, s533, s534, s535, s536, s537, s538, s539, s540, s541, s542, s543], []⟩ wc) :
    Code.wp Try.prog (hd (nth 8 bodyC)) (Exit.then K (Exit.then K1 (bodyPost Try.prog Try.f4 fun e w' => e = Ending.returned (Value.bool true) ∧ Below w.heap.size w w'))) ⟨#[.slice A0 l0.length c0, .slice A1 l1.length c1, u2, u3, u4, .slice Ab B.length cb, .int .i64 R, .int .i64 C, .slice Am M.length cm, .bool ok, .slice Am2 M.length cm2, .bool ok, .int .i64 S, .bool ok, .int .i64 S, .bool ok, u16, u17, u18, u19, u20, u21, u22, u23, u24, u25, u26, u27, u28, u29, u30, u31, u32, u33, u34, u35, u36, u37, u38, u39, u40, u41, u42, u43, u44, u45, u46, u47, u48, u49, u50, u51, u52, u53, u54, u55, u56, u57, u58, u59, u60, u61, u62, u63, u64, u65, u66, u67, u68, u69, u70, u71, u72, u73, u74, u75, u76, u77, u78, u79, u80, u81, u82, u83, u84, u85, u86, u87, u88, u89, u90, u91, u92, u93, u94, u95, u96, u97, u98, u99, u100, u101, u102, u103, u104, u105, u106, u107, u108, u109, u110, u111, u112, u113, u114, u115, u116, u117, u118, u119, u120, u121, u122, u123, u124, u125, u126, u127, u128, u129, u130, u131, u132, u133, u134, u135, u136, u137, u138, u139, u140, u141, u142, u143, u144, u145, u146, u147, u148, u149, u150, u151, u152, u153, u154, u155, u156, u157, u158, u159, u160, u161, u162, u163, u164, u165, u166, u167, u168, u169, u170, u171, u172, u173, u174, u175, u176, u177, u178, u179, u180, u181, u182, u183, u184, u185, u186, u187, u188, u189, u190, u191, u192, u193, u194, u195, u196, u197, u198, u199, u200, u201, u202, u203, u204, u205, u206, u207, u208, u209, u210, u211, u212, u213, u214, u215, u216, u217, u218, u219, u220, u221, u222, u223, u224, u225, u226, u227, u228, u229, u230, u231, u232, u233, u234, u235, u236, u237, u238, u239, u240, u241, u242, u243, u244, u245, u246, u247, u248, u249, u250, u251, u252, u253, u254, u255, u256, u257, u258, u259, u260, u261, u262, u263, u264, u265, u266, u267, u268, u269, u270, u271, u272, u273, u274, u275, u276, u277, u278, u279, u280, u281, u282, u283, u284, u285, u286, u287, u288, u289, u290, u291, u292, u293, u294, u295, u296, u297, u298, u299, u300, u301, u302, u303, u304, u305, u306, u307, u308, u309, u310, u311, u312, u313, u314, u315, u316, u317, u318, u319, u320, u321, u322, u323, u324, u325, u326, u327, u328, u329, u330, u331, u332, u333, u334, u335, u336, u337, u338, u339, u340, u341, u342, u343, u344, u345, u346, u347, u348, u349, u350, u351, u352, u353, u354, u355, u356, u357, u358, u359, u360, u361, u362, u363, u364, u365, u366, u367, u368, u369, u370, u371, u372, u373, u374, u375, u376, u377, u378, u379, u380, u381, u382, u383, u384, u385, u386, u387, u388, u389, u390, u391, u392, u393, u394, u395, u396, u397, u398, u399, u400, u401, u402, u403, u404, u405, u406, u407, u408, u409, u410, u411, u412, u413, u414, u415, u416, u417, u418, u419, u420, u421, u422, u423, u424, u425, u426, u427, u428, u429, u430, u431, u432, u433, u434, u435, u436, u437, u438, u439, u440, u441, u442, u443, u444, u445, u446, u447, u448, u449, u450, u451, u452, u453, u454, u455, u456, u457, u458, u459, u460, u461, u462, u463, u464, u465, u466, u467, u468, u469, u470, u471, u472, u473, u474, u475, u476, u477, u478, u479, u480, u481, u482, u483, u484, u485, u486, u487, u488, u489, u490, u491, u492, u493, u494, u495, u496, u497, u498, u499, u500, u501, u502, u503, u504, u505, u506, u507, u508, u509, u510, u511, u512, u513, u514, u515, u516, u517, u518, u519, u520, u521, u522, u523, u524, u525, u526, u527, u528, u529, u530, u531, u532, u533, u534, u535, u536, u537, u538, u539, u540, u541, u542, u543], []⟩ wr := by
  conv => arg 2; whnf
  conv at hc => enter [a', w', 1]; arg 2; whnf
  dsimp only at hK1
  (try dsimp only)
  cases ok with
  | false =>
    go_wp2
    repeat (go_quiet (fail); try go_wp2)
    all_goals exact ⟨by repeat (first | (with_reducible first | exact HB.out | apply below_alloc | apply pw_below_drewN | apply below_drew1) | exact HB.out)⟩
  | true =>
    have E := Aside0.mk (F.out.most rfl)
    have ml := F.out.mlen rfl
    obtain ⟨r1, r2, r3, r4, r5⟩ := F.out.rng rfl
    have lw := F.out.low rfl
    obtain ⟨pr0, prn, prs⟩ := F.out.pre rfl
    have z1 : ((M.length : Int) != (B.length : Int)) = false := bne_eq_false_iff_eq.mpr (by omega)
    have z2 : decide (S < wrap64 (C - mo)) = false := decide_eq_false (by omega)
    have hi1 := i64_w (C - mo)
    obtain ⟨b, hb1, hb2⟩ : ∃ b : Bool, (S == 0) = b ∧ decide (C ≤ mo) = b := ⟨decide (C ≤ mo), by rw [Bool.eq_iff_iff, beq_iff_eq, decide_eq_true_eq]; exact F.out.none rfl, rfl⟩
    have z3 : (b != b) = false := bne_self_eq_false _
    have MLB := Aside0.mk ml
    have RNG := Aside0.mk (And.intro r1 (And.intro r2 (And.intro r3 (And.intro r4 r5))))
    have PRE := Aside0.mk (And.intro pr0 (And.intro prn prs))
    clear ml r1 r2 r3 r4 r5 lw pr0 prn prs
    go_wp2_with (first | (go_at_call 18; (with_reducible refine (impl_MostWears.calls k _ _ B R mo true _ ?side1 ?side2 E.out).mono ?_); (case side1 => repeat (first | exact HA.out | (with_reducible refine Kd.C_alloc ?_ _) | (with_reducible refine Kd.C_drewN ?_ _) | (with_reducible refine Kd.C_drew ?_))); (case side2 => exact HAc.out); rintro e w_ ⟨rfl, hb⟩; (try dsimp only); have n0_ := Aside0.mk (Kd.C_below (by repeat (first | exact HA.out | (with_reducible refine Kd.C_alloc ?_ _) | (with_reducible refine Kd.C_drewN ?_ _) | (with_reducible refine Kd.C_drew ?_))) hb); have n1_ := Aside0.mk (Kd.C_below (by repeat (first | exact HM.out | (with_reducible refine Kd.C_alloc ?_ _) | (with_reducible refine Kd.C_drewN ?_ _) | (with_reducible refine Kd.C_drew ?_))) hb); have n2_ := Aside0.mk (below_step (by repeat (first | (with_reducible first | exact HB.out | apply below_alloc | apply pw_below_drewN | apply below_drew1) | exact HB.out)) hb); clear HB hb; clear HA; clear HM; have HA := n0_; have HM := n1_; have HB := n2_; clear n0_ n1_ n2_))
    repeat (go_quiet (fail); try go_wp2)
    go_loopg [18, 160] M.length (fun kq v18 v160 w' => ∃ (i : Int), v18 = .int .i64 (pr i) ∧ v160 = .int .i64 i ∧ Aside0 (0 ≤ i ∧ i + (kq : Int) = M.length) ∧ Aside0 (Kd.C (Kd.int .i64) w' Ab B.length B) ∧ Aside0 (Kd.C (Kd.int .i64) w' Am M.length M) ∧ Aside0 (Below w.heap.size w w'))
    case atStart => exact ⟨0, by rw [PRE.out.1], by first | rfl | (simp; done), ⟨by omega⟩, ⟨by repeat (first | exact HA.out | (with_reducible refine Kd.C_alloc ?_ _) | (with_reducible refine Kd.C_drewN ?_ _) | (with_reducible refine Kd.C_drew ?_))⟩, ⟨by repeat (first | exact HM.out | (with_reducible refine Kd.C_alloc ?_ _) | (with_reducible refine Kd.C_drewN ?_ _) | (with_reducible refine Kd.C_drew ?_))⟩, ⟨by repeat (first | (with_reducible first | exact HB.out | apply below_alloc | apply pw_below_drewN | apply below_drew1) | exact HB.out)⟩⟩
    case round =>
      clear HA HM HB z1 z2 z3 hb1 hb2
      obtain ⟨i, rfl, rfl, HI, HA, HM, HB⟩ := hrel
      have hi_ := HI.out
      clear HI
      by_cases c : i < (M.length : Int)
      · cases gk with
        | zero => omega
        | succ k1 =>
          have cb_ : decide (i < (M.length : Int)) = true := decide_eq_true c
          have g1 := F.out.ge rfl i hi_.1 c
          have g2 := PRE.out.2.2 i hi_.1 c
          have c2 : i < (B.length : Int) := by have := MLB.out; omega
          have f1 : decide (rd M i < rd B i) = false := decide_eq_false (by omega)
          have hj1 := i64_w (rd M i - rd B i)
          have hj2 := i64_w (pr i + wrap64 (rd M i - rd B i))
          have pa : 0 ≤ (i : Int) := hi_.1
          have qa : (i : Int) < (M.length : Int) := c
          obtain ⟨ada, ea, hxa⟩ := Kd.at_int HM.out (i : Int) pa qa
          cases ea
          have pba : decide (0 ≤ (i : Int)) = true := decide_eq_true pa
          have qba : decide ((i : Int) < (M.length : Int)) = true := decide_eq_true qa
          replace pa := eq_true pa
          replace qa := eq_true qa
          have pb : 0 ≤ (i : Int) := hi_.1
          have qb : (i : Int) < (B.length : Int) := c2
          obtain ⟨adb, eb, hxb⟩ := Kd.at_int HA.out (i : Int) pb qb
          cases eb
          have pbb : decide (0 ≤ (i : Int)) = true := decide_eq_true pb
          have qbb : decide ((i : Int) < (B.length : Int)) = true := decide_eq_true qb
          replace pb := eq_true pb
          replace qb := eq_true qb
          have hnx : wrap64 (i + 1) = i + 1 := by have := RNG.out; unfold wrap64; omega
          have HX := Aside0.mk hnx
          have HI := Aside0.mk hi_
          have NC := Aside0.mk c
          have G2 := Aside0.mk g2
          clear hnx hi_ c c2 g1 g2
          go_wp2
          repeat (go_quiet (fail); try go_wp2)
          go_roundg k1
          case measure => omega
          case rel => exact ⟨i + 1, congrArg _ G2.out, congrArg _ HX.out, ⟨by have := HI.out; have := NC.out; omega⟩, ⟨by repeat (first | exact HA.out | (with_reducible refine Kd.C_alloc ?_ _) | (with_reducible refine Kd.C_drewN ?_ _) | (with_reducible refine Kd.C_drew ?_))⟩, ⟨by repeat (first | exact HM.out | (with_reducible refine Kd.C_alloc ?_ _) | (with_reducible refine Kd.C_drewN ?_ _) | (with_reducible refine Kd.C_drew ?_))⟩, ⟨by repeat (first | (with_reducible first | exact HB.out | apply below_alloc | apply pw_below_drewN | apply below_drew1) | exact HB.out)⟩⟩
      · have cb_ : decide (i < (M.length : Int)) = false := decide_eq_false c
        obtain rfl : i = (M.length : Int) := by omega
        clear hi_ c
        go_wp2
        repeat (go_quiet (fail); try go_wp2)
        clear cb_
        go_loopg [21] (M.length + 1) (fun kq v21 w' => ∃ (i : Int), v21 = .int .i64 i ∧ Aside0 (0 ≤ i ∧ i + (kq : Int) = M.length + 1) ∧ Aside0 (Kd.C (Kd.int .i64) w' Ab B.length B) ∧ Aside0 (Kd.C (Kd.int .i64) w' Am M.length M) ∧ Aside0 (Below w.heap.size w w'))
        case atStart => exact ⟨0, by first | rfl | (simp; done), ⟨by omega⟩, ⟨by repeat (first | exact HA.out | (with_reducible refine Kd.C_alloc ?_ _) | (with_reducible refine Kd.C_drewN ?_ _) | (with_reducible refine Kd.C_drew ?_))⟩, ⟨by repeat (first | exact HM.out | (with_reducible refine Kd.C_alloc ?_ _) | (with_reducible refine Kd.C_drewN ?_ _) | (with_reducible refine Kd.C_drew ?_))⟩, ⟨by repeat (first | (with_reducible first | exact HB.out | apply below_alloc | apply pw_below_drewN | apply below_drew1) | exact HB.out)⟩⟩
        case round =>
          clear HA HM HB
          obtain ⟨i, rfl, HI, HA, HM, HB⟩ := hrel
          have hi_ := HI.out
          clear HI
          have rn := RNG.out
          have hwr : wrap64 (i + R) = i + R := by unfold wrap64; omega
          have hj1 := i64_w (i + R)
          by_cases c : wrap64 (i + R) ≤ (M.length : Int)
          · cases gk with
            | zero => omega
            | succ k1 =>
              obtain ⟨g1, g2⟩ := F.out.win rfl i hi_.1 (by omega)
              have cb_ : decide (wrap64 (i + R) ≤ (M.length : Int)) = true := decide_eq_true c
              have c1b := eq_true c
              have c2b : (0 ≤ i) = True := eq_true hi_.1
              have c3b : (i ≤ wrap64 (i + R)) = True := eq_true (by omega)
              have c4b : decide (0 ≤ i) = true := decide_eq_true hi_.1
              have c5b : decide (i ≤ wrap64 (i + R)) = true := decide_eq_true (by omega)
              have f1 : decide (ws i < C) = false := decide_eq_false (by omega)
              obtain ⟨i09, hi09, _, hsz9, _⟩ := info_parts info3
              obtain ⟨A9, hcut9, hA9, hC9⟩ := print_mid_of (P := Try.prog) (Value.int .i64) 0 22 3 .i64 .i64 Try.underlying22 hi09 hsz9 Am cm M i (wrap64 (i + R)) hi_.1 (by omega) c HMc.out
              have HY := Aside0.mk (Kd.C_of_reads (h1 := fun _ => rfl) (hA9 _ (Kd.reads_of_C HM.out)))
              have HYc := Aside0.mk hC9
              clear hA9 hC9 hi09 hsz9
              obtain ⟨yc_, hyc_⟩ : ∃ y_ : List Int, y_ = ((M.take ((wrap64 (i + R)) : Int).toNat).drop (i : Int).toNat) := ⟨_, rfl⟩
              rw [← hyc_] at hcut9 HY HYc
              have E2 := Aside0.mk (show laws_wSum.f k yc_ = some (ws i) from by rw [hyc_, hwr]; exact g1)
              have hnx : wrap64 (i + 1) = i + 1 := by unfold wrap64; omega
              have HX := Aside0.mk hnx
              have HI := Aside0.mk hi_
              clear hyc_ hnx hi_ c g1 g2 rn hwr
              go_wp2_with (first | (go_at_call 19; (with_reducible refine (laws_wSum.calls k _ _ yc_ (ws i) _ ?side1 ?side2 E2.out).mono ?_); (case side1 => repeat (first | exact HY.out | (with_reducible refine Kd.C_alloc ?_ _) | (with_reducible refine Kd.C_drewN ?_ _) | (with_reducible refine Kd.C_drew ?_))); (case side2 => exact HYc.out); rintro e w' ⟨rfl, ⟨nd, rfl⟩⟩; (try first | exact ⟨rfl, _, World.drewN_drewN _ _ _⟩ | exact ⟨rfl, _, Eq.trans (World.drewN_drewN _ _ _) (congrArg (World.drewN _) (Nat.add_assoc _ _ _))⟩); (try dsimp only)))
              repeat (go_quiet (fail); try go_wp2)
              go_roundg k1
              case measure => omega
              case rel => exact ⟨i + 1, congrArg _ HX.out, ⟨by have := HI.out; omega⟩, ⟨by repeat (first | exact HA.out | (with_reducible refine Kd.C_alloc ?_ _) | (with_reducible refine Kd.C_drewN ?_ _) | (with_reducible refine Kd.C_drew ?_))⟩, ⟨by repeat (first | exact HM.out | (with_reducible refine Kd.C_alloc ?_ _) | (with_reducible refine Kd.C_drewN ?_ _) | (with_reducible refine Kd.C_drew ?_))⟩, ⟨by repeat (first | (with_reducible first | exact HB.out | apply below_alloc | apply pw_below_drewN | apply below_drew1) | exact HB.out)⟩⟩
          · have cb_ : decide (wrap64 (i + R) ≤ (M.length : Int)) = false := decide_eq_false c
            have e1 : (pr (M.length : Int) != S) = false := bne_eq_false_iff_eq.mpr PRE.out.2.1
            have hj2 := i64_w (C - 1)
            clear hi_ c hwr rn
            by_cases c0 : 0 < C
            · have d0 : decide (0 < C) = true := decide_eq_true c0
              obtain ⟨g1, g2⟩ := F.out.less rfl c0
              have E3 := Aside0.mk g1
              have f1 : decide (S < ls) = false := decide_eq_false (by omega)
              clear g1 g2 c0
              go_wp2_with (first | (go_at_call 15; (with_reducible refine (impl_MendSum.calls k _ _ B R (wrap64 (C - 1)) ls true _ ?side1 ?side2 E3.out).mono ?_); (case side1 => repeat (first | exact HA.out | (with_reducible refine Kd.C_alloc ?_ _) | (with_reducible refine Kd.C_drewN ?_ _) | (with_reducible refine Kd.C_drew ?_))); (case side2 => exact HAc.out); rintro e w_ ⟨rfl, hb⟩; (try dsimp only); have n0_ := Aside0.mk (Kd.C_below (by repeat (first | exact HA.out | (with_reducible refine Kd.C_alloc ?_ _) | (with_reducible refine Kd.C_drewN ?_ _) | (with_reducible refine Kd.C_drew ?_))) hb); have n1_ := Aside0.mk (Kd.C_below (by repeat (first | exact HM.out | (with_reducible refine Kd.C_alloc ?_ _) | (with_reducible refine Kd.C_drewN ?_ _) | (with_reducible refine Kd.C_drew ?_))) hb); have n2_ := Aside0.mk (below_step (by repeat (first | (with_reducible first | exact HB.out | apply below_alloc | apply pw_below_drewN | apply below_drew1) | exact HB.out)) hb); clear HB hb; clear HA; clear HM; have HA := n0_; have HM := n1_; have HB := n2_; clear n0_ n1_ n2_))
              repeat (go_quiet (fail); try go_wp2)
              all_goals exact ⟨by repeat (first | (with_reducible first | exact HB.out | apply below_alloc | apply pw_below_drewN | apply below_drew1) | exact HB.out)⟩
            · have d0 : decide (0 < C) = false := decide_eq_false c0
              clear c0
              go_wp2
              repeat (go_quiet (fail); try go_wp2)
              all_goals exact ⟨by repeat (first | (with_reducible first | exact HB.out | apply below_alloc | apply pw_below_drewN | apply below_drew1) | exact HB.out)⟩
end Go.Proofs.Ytalnjklklpnnhaa.PFnStepsMended
