/- Printed by gen.py (own work): functions of the program Ytdoelihemgopcaa over trees and the abstract heap. -/
import Derived.Test.YtdoelihemgopcaaT
set_option linter.unusedSimpArgs false
set_option linter.unusedVariables false
namespace Go.Esc.M
open Go Go.Esc Go.Proofs

/-! #### escrow/escrowlaw17.RecordApart -/
def escrowlaw17_RecordApart.S (a0 a1 a2 a3 : AVal) (G : Heap) (Q : AVal → Heap → Prop) : Prop :=
  ACalls P escrowlaw17_head.n [] G fun v1 G2 => wv (vun .not v1) fun v3 => brB (some v3)
  (Q (.bool false) G2)
  (aBuildSlice T t_sl_api_Update 0 [] G2 fun v4 G5 => aAppend T G5 t_sl_api_Update t_sl_api_Update v4 a0 fun v6 G7 => aBuildSlice T t_sl_api_Update 0 [] G7 fun v8 G9 => aAppend T G9 t_sl_api_Update t_sl_api_Update v8 a1 fun v10 G11 => aBuildSlice T t_sl_api_Slot 0 [] G11 fun v12 G13 => aAppend T G13 t_sl_api_Slot t_sl_api_Slot v12 a2 fun v14 G15 => wv (vbuild T t_api_State [(4, v6), (5, v10), (15, v14), (17, .int .i64 (-1))]) fun v16 => aNew G15 (.own (z_api_State)) fun i17 G18 => wg (vstore T G18 t_api_State (.ptr i17 [] 0) v16) fun G19 => wv (vbin T .and t_int a3 (.int .i64 32767)) fun v20 => wv (vbin T .add t_int (.int .i64 1) v20) fun v21 => wv (vbuild T t_api_Record [(0, .int .i64 5), (8, v21)]) fun v22 => aNew G19 (.own (z_api_Record)) fun i23 G24 => wg (vstore T G24 t_api_Record (.ptr i23 [] 0) v22) fun G25 => wv (vload T G25 t_api_State (.ptr i17 [] 0)) fun v26 => wv (vload T G25 t_api_Record (.ptr i23 [] 0)) fun v27 => ACalls P record_Apply.n [v26, v27] G25 fun v28 G29 => wv (vextract v28 0) fun v30 => wv (vextract v28 1) fun v31 => aNew G29 (.own (z_api_State)) fun i32 G33 => wg (vstore T G33 t_api_State (.ptr i32 [] 0) v30) fun G34 => wv (vload T G34 t_api_State (.ptr i17 [] 0)) fun v35 => wv (vload T G34 t_api_Record (.ptr i23 [] 0)) fun v36 => ACalls P record_Apply.n [v35, v36] G34 fun v37 G38 => wv (vextract v37 0) fun v39 => wv (vextract v37 1) fun v40 => aNew G38 (.own (z_api_State)) fun i41 G42 => wg (vstore T G42 t_api_State (.ptr i41 [] 0) v39) fun G43 => ∀ J44 : List AVal → Heap → Prop,
  (∀ (x84 : AVal) (x85 : AVal) (x86 : AVal) (i87 : AId) (i88 : AId) (i89 : AId) (G45 : Heap), (∀ J90 : List AVal → Heap → Prop,
  (∀ (x109 : AVal) (x110 : AVal) (x111 : AVal) (i112 : AId) (i113 : AId) (i114 : AId) (G91 : Heap), (∀ J115 : List AVal → Heap → Prop,
  (∀ (x134 : AVal) (x135 : AVal) (x136 : AVal) (i137 : AId) (i138 : AId) (i139 : AId) (G116 : Heap), (∀ J140 : List AVal → Heap → Prop,
  (∀ (x159 : AVal) (x160 : AVal) (x161 : AVal) (i162 : AId) (i163 : AId) (i164 : AId) (G141 : Heap), (wv (vload T G141 t_sl_api_Update (.ptr i163 [4] 4)) fun v165 => wv (vbuild T t_api_Update [(0, .int .i64 (-4))]) fun v166 => aBuildSlice T t_sl_api_Update 1 [(0, v166)] G141 fun v167 G168 => aAppend T G168 t_sl_api_Update t_sl_api_Update v165 v167 fun v169 G170 => wg (vstore T G170 t_sl_api_Update (.ptr i163 [4] 4) v169) fun G171 => wv (vload T G171 t_sl_api_Update (.ptr i163 [5] 5)) fun v172 => wv (vbuild T t_api_Update [(0, .int .i64 (-5))]) fun v173 => aBuildSlice T t_sl_api_Update 1 [(0, v173)] G171 fun v174 G175 => aAppend T G175 t_sl_api_Update t_sl_api_Update v172 v174 fun v176 G177 => wg (vstore T G177 t_sl_api_Update (.ptr i163 [5] 5) v176) fun G178 => wv (vload T G178 t_sl_api_Slot (.ptr i163 [15] 112)) fun v179 => wv (vbuild T t_api_Slot [(0, .int .i64 (-6))]) fun v180 => aBuildSlice T t_sl_api_Slot 1 [(0, v180)] G178 fun v181 G182 => aAppend T G182 t_sl_api_Slot t_sl_api_Slot v179 v181 fun v183 G184 => wg (vstore T G184 t_sl_api_Slot (.ptr i163 [15] 112) v183) fun G185 => wv (vload T G185 t_sl_api_Update (.ptr i164 [4] 4)) fun v186 => wv (vbuild T t_api_Update [(0, .int .i64 (-7))]) fun v187 => aBuildSlice T t_sl_api_Update 1 [(0, v187)] G185 fun v188 G189 => aAppend T G189 t_sl_api_Update t_sl_api_Update v186 v188 fun v190 G191 => wg (vstore T G191 t_sl_api_Update (.ptr i164 [4] 4) v190) fun G192 => wv (vload T G192 t_sl_api_Update (.ptr i164 [5] 5)) fun v193 => wv (vbuild T t_api_Update [(0, .int .i64 (-8))]) fun v194 => aBuildSlice T t_sl_api_Update 1 [(0, v194)] G192 fun v195 G196 => aAppend T G196 t_sl_api_Update t_sl_api_Update v193 v195 fun v197 G198 => wg (vstore T G198 t_sl_api_Update (.ptr i164 [5] 5) v197) fun G199 => wv (vload T G199 t_sl_api_Slot (.ptr i164 [15] 112)) fun v200 => wv (vbuild T t_api_Slot [(0, .int .i64 (-9))]) fun v201 => aBuildSlice T t_sl_api_Slot 1 [(0, v201)] G199 fun v202 G203 => aAppend T G203 t_sl_api_Slot t_sl_api_Slot v200 v202 fun v204 G205 => wg (vstore T G205 t_sl_api_Slot (.ptr i164 [15] 112) v204) fun G206 => wv (vlen T G206 t_sl_api_Update x159) fun v207 => wv (vlen T G206 t_sl_api_Update x160) fun v208 => wv (vlen T G206 t_sl_api_Slot x161) fun v209 => ∀ J210 : List AVal → Heap → Prop,
  (∀ (x257 : AVal) (x258 : AVal) (x259 : AVal) (i260 : AId) (i261 : AId) (i262 : AId) (x263 : AVal) (x264 : AVal) (x265 : AVal) (G211 : Heap), (∀ J266 : List AVal → Heap → Prop,
  (∀ (x326 : AVal) (x327 : AVal) (i328 : AId) (i329 : AId) (i330 : AId) (x331 : AVal) (x332 : AVal) (G267 : Heap), (∀ J333 : List AVal → Heap → Prop,
  (∀ (x377 : AVal) (G334 : Heap), (Q x377 G334) → J333 [x377] G334) →
  (wv (vload T G267 t_sl_api_Update (.ptr i330 [4] 4)) fun v335 => wv (vslice T t_sl_api_Update v335 none (some (x331)) none) fun v336 => ACalls P escrowlaw17_sameList.n [v336, x326] G267 fun v337 G338 => brB (some v337)
  (wv (vload T G338 t_sl_api_Update (.ptr i330 [5] 5)) fun v339 => wv (vslice T t_sl_api_Update v339 none (some (x332)) none) fun v340 => ACalls P escrowlaw17_sameList.n [v340, x327] G338 fun v341 G342 => brB (some v341)
  (wv (vload T G342 t_sl_api_Update (.ptr i328 [4] 4)) fun v343 => ACalls P escrowlaw17_sameList.n [v343, x326] G342 fun v344 G345 => brB (some v344)
  (wv (vload T G345 t_sl_api_Update (.ptr i328 [5] 5)) fun v346 => ACalls P escrowlaw17_sameList.n [v346, x327] G345 fun v347 G348 => brB (some v347)
  (wv (vbin T .eql t_int x331 (.int .i64 0)) fun v349 => brB (some v349)
  (wv (vbin T .eql t_int x332 (.int .i64 0)) fun v350 => brB (some v350)
  (ACalls P escrowlaw17_readApart.n [x331] G348 fun v351 G352 => J333 [v351] G352)
  (wv (vload T G348 t_sl_api_Update (.ptr i329 [5] 5)) fun v353 => wv (viaddr T t_sl_api_Update v353 (.int .i64 0)) fun v354 => wv (vfaddr T t_api_Update v354 0) fun v355 => wv (vload T G348 t_int v355) fun v356 => wv (vbin T .eql t_int v356 (.int .i64 (-2))) fun v357 => brB (some v357)
  (ACalls P escrowlaw17_readApart.n [x331] G348 fun v358 G359 => J333 [v358] G359)
  (J333 [.bool false] G348)))
  (wv (vload T G348 t_sl_api_Update (.ptr i329 [4] 4)) fun v360 => wv (viaddr T t_sl_api_Update v360 (.int .i64 0)) fun v361 => wv (vfaddr T t_api_Update v361 0) fun v362 => wv (vload T G348 t_int v362) fun v363 => wv (vbin T .eql t_int v363 (.int .i64 (-1))) fun v364 => brB (some v364)
  (wv (vbin T .eql t_int x332 (.int .i64 0)) fun v365 => brB (some v365)
  (ACalls P escrowlaw17_readApart.n [x331] G348 fun v366 G367 => J333 [v366] G367)
  (wv (vload T G348 t_sl_api_Update (.ptr i329 [5] 5)) fun v368 => wv (viaddr T t_sl_api_Update v368 (.int .i64 0)) fun v369 => wv (vfaddr T t_api_Update v369 0) fun v370 => wv (vload T G348 t_int v370) fun v371 => wv (vbin T .eql t_int v371 (.int .i64 (-2))) fun v372 => brB (some v372)
  (ACalls P escrowlaw17_readApart.n [x331] G348 fun v373 G374 => J333 [v373] G374)
  (J333 [.bool false] G348)))
  (J333 [.bool false] G348)))
  (J333 [.bool false] G348))
  (J333 [.bool false] G345))
  (J333 [.bool false] G342))
  (J333 [.bool false] G338))) → J266 [x326, x327, .ptr i328 [] 0, .ptr i329 [] 0, .ptr i330 [] 0, x331, x332] G267) →
  (∀ R268 : List AVal → Heap → Prop,
  (∀ (x270 : AVal) (x271 : AVal) (x272 : AVal) (i273 : AId) (i274 : AId) (i275 : AId) (x276 : AVal) (x277 : AVal) (x278 : AVal) (x279 : AVal) (G269 : Heap), (wv (vbin T .lss t_int x279 x278) fun v280 => brB (some v280)
  (∀ J281 : List AVal → Heap → Prop,
  (∀ (x315 : AVal) (x316 : AVal) (x317 : AVal) (i318 : AId) (i319 : AId) (i320 : AId) (x321 : AVal) (x322 : AVal) (x323 : AVal) (x324 : AVal) (G282 : Heap), (wv (vbin T .add t_int x324 (.int .i64 1)) fun v325 => R268 [x315, x316, x317, .ptr i318 [] 0, .ptr i319 [] 0, .ptr i320 [] 0, x321, x322, x323, v325] G282) → J281 [x315, x316, x317, .ptr i318 [] 0, .ptr i319 [] 0, .ptr i320 [] 0, x321, x322, x323, x324] G282) →
  (∀ J283 : List AVal → Heap → Prop,
  (∀ (x304 : AVal) (x305 : AVal) (x306 : AVal) (i307 : AId) (i308 : AId) (i309 : AId) (x310 : AVal) (x311 : AVal) (x312 : AVal) (x313 : AVal) (x314 : AVal) (G284 : Heap), (brB (some x314)
  (Q (.bool false) G284)
  (J281 [x304, x305, x306, .ptr i307 [] 0, .ptr i308 [] 0, .ptr i309 [] 0, x310, x311, x312, x313] G284)) → J283 [x304, x305, x306, .ptr i307 [] 0, .ptr i308 [] 0, .ptr i309 [] 0, x310, x311, x312, x313, x314] G284) →
  (wv (vload T G269 t_sl_api_Slot (.ptr i275 [15] 112)) fun v285 => wv (viaddr T t_sl_api_Slot v285 x279) fun v286 => wv (vload T G269 t_api_Slot v286) fun v287 => wv (viaddr T t_sl_api_Slot x272 x279) fun v288 => wv (vload T G269 t_api_Slot v288) fun v289 => wv (vbin T .neq t_api_Slot v287 v289) fun v290 => brB (some v290)
  (J283 [x270, x271, x272, .ptr i273 [] 0, .ptr i274 [] 0, .ptr i275 [] 0, x276, x277, x278, x279, .bool true] G269)
  (wv (vload T G269 t_sl_api_Slot (.ptr i273 [15] 112)) fun v291 => wv (viaddr T t_sl_api_Slot v291 x279) fun v292 => wv (vload T G269 t_api_Slot v292) fun v293 => wv (viaddr T t_sl_api_Slot x272 x279) fun v294 => wv (vload T G269 t_api_Slot v294) fun v295 => wv (vbin T .neq t_api_Slot v293 v295) fun v296 => brB (some v296)
  (J283 [x270, x271, x272, .ptr i273 [] 0, .ptr i274 [] 0, .ptr i275 [] 0, x276, x277, x278, x279, .bool true] G269)
  (wv (vload T G269 t_sl_api_Slot (.ptr i274 [15] 112)) fun v297 => wv (viaddr T t_sl_api_Slot v297 x279) fun v298 => wv (vfaddr T t_api_Slot v298 0) fun v299 => wv (vload T G269 t_int64 v299) fun v300 => wv (vbin T .neq t_int64 v300 (.int .i64 (-3))) fun v301 => J283 [x270, x271, x272, .ptr i273 [] 0, .ptr i274 [] 0, .ptr i275 [] 0, x276, x277, x278, x279, v301] G269)))))
  (J266 [x270, x271, .ptr i273 [] 0, .ptr i274 [] 0, .ptr i275 [] 0, x276, x277] G269)) → R268 [x270, x271, x272, .ptr i273 [] 0, .ptr i274 [] 0, .ptr i275 [] 0, x276, x277, x278, x279] G269) →
  R268 [x257, x258, x259, .ptr i260 [] 0, .ptr i261 [] 0, .ptr i262 [] 0, x263, x264, x265, .int .i64 0] G211)) → J210 [x257, x258, x259, .ptr i260 [] 0, .ptr i261 [] 0, .ptr i262 [] 0, x263, x264, x265] G211) →
  (∀ J212 : List AVal → Heap → Prop,
  (∀ (x247 : AVal) (x248 : AVal) (x249 : AVal) (i250 : AId) (i251 : AId) (i252 : AId) (x253 : AVal) (x254 : AVal) (x255 : AVal) (x256 : AVal) (G213 : Heap), (brB (some x256)
  (Q (.bool false) G213)
  (J210 [x247, x248, x249, .ptr i250 [] 0, .ptr i251 [] 0, .ptr i252 [] 0, x253, x254, x255] G213)) → J212 [x247, x248, x249, .ptr i250 [] 0, .ptr i251 [] 0, .ptr i252 [] 0, x253, x254, x255, x256] G213) →
  (let J246 : AVal → Heap → Prop := (fun x245 G244 => J212 [x159, x160, x161, .ptr i162 [] 0, .ptr i163 [] 0, .ptr i164 [] 0, v207, v208, v209, x245] G244);
  wv (vload T G206 t_sl_api_Update (.ptr i163 [4] 4)) fun v214 => wv (viaddr T t_sl_api_Update v214 v207) fun v215 => wv (vfaddr T t_api_Update v215 0) fun v216 => wv (vload T G206 t_int v216) fun v217 => wv (vbin T .neq t_int v217 (.int .i64 (-4))) fun v218 => brB (some v218)
  (J246 (.bool true) G206)
  (wv (vload T G206 t_sl_api_Update (.ptr i163 [5] 5)) fun v219 => wv (viaddr T t_sl_api_Update v219 v208) fun v220 => wv (vfaddr T t_api_Update v220 0) fun v221 => wv (vload T G206 t_int v221) fun v222 => wv (vbin T .neq t_int v222 (.int .i64 (-5))) fun v223 => brB (some v223)
  (J246 (.bool true) G206)
  (wv (vload T G206 t_sl_api_Slot (.ptr i163 [15] 112)) fun v224 => wv (viaddr T t_sl_api_Slot v224 v209) fun v225 => wv (vfaddr T t_api_Slot v225 0) fun v226 => wv (vload T G206 t_int64 v226) fun v227 => wv (vbin T .neq t_int64 v227 (.int .i64 (-6))) fun v228 => brB (some v228)
  (J246 (.bool true) G206)
  (wv (vload T G206 t_sl_api_Update (.ptr i164 [4] 4)) fun v229 => wv (viaddr T t_sl_api_Update v229 v207) fun v230 => wv (vfaddr T t_api_Update v230 0) fun v231 => wv (vload T G206 t_int v231) fun v232 => wv (vbin T .neq t_int v232 (.int .i64 (-7))) fun v233 => brB (some v233)
  (J246 (.bool true) G206)
  (wv (vload T G206 t_sl_api_Update (.ptr i164 [5] 5)) fun v234 => wv (viaddr T t_sl_api_Update v234 v208) fun v235 => wv (vfaddr T t_api_Update v235 0) fun v236 => wv (vload T G206 t_int v236) fun v237 => wv (vbin T .neq t_int v237 (.int .i64 (-8))) fun v238 => brB (some v238)
  (J246 (.bool true) G206)
  (wv (vload T G206 t_sl_api_Slot (.ptr i164 [15] 112)) fun v239 => wv (viaddr T t_sl_api_Slot v239 v209) fun v240 => wv (vfaddr T t_api_Slot v240 0) fun v241 => wv (vload T G206 t_int64 v241) fun v242 => wv (vbin T .neq t_int64 v242 (.int .i64 (-9))) fun v243 => J246 v243 G206)))))))) → J140 [x159, x160, x161, .ptr i162 [] 0, .ptr i163 [] 0, .ptr i164 [] 0] G141) →
  (∀ R142 : List AVal → Heap → Prop,
  (∀ (x144 : AVal) (x145 : AVal) (x146 : AVal) (i147 : AId) (i148 : AId) (i149 : AId) (x150 : AVal) (G143 : Heap), (wv (vload T G143 t_sl_api_Slot (.ptr i148 [15] 112)) fun v151 => wv (vlen T G143 t_sl_api_Slot v151) fun v152 => wv (vbin T .lss t_int x150 v152) fun v153 => brB (some v153)
  (wv (vload T G143 t_sl_api_Slot (.ptr i148 [15] 112)) fun v154 => wv (vbuild T t_api_Slot [(0, .int .i64 (-3))]) fun v155 => wv (viaddr T t_sl_api_Slot v154 x150) fun v156 => wg (vstore T G143 t_api_Slot v156 v155) fun G157 => wv (vbin T .add t_int x150 (.int .i64 1)) fun v158 => R142 [x144, x145, x146, .ptr i147 [] 0, .ptr i148 [] 0, .ptr i149 [] 0, v158] G157)
  (J140 [x144, x145, x146, .ptr i147 [] 0, .ptr i148 [] 0, .ptr i149 [] 0] G143)) → R142 [x144, x145, x146, .ptr i147 [] 0, .ptr i148 [] 0, .ptr i149 [] 0, x150] G143) →
  R142 [x134, x135, x136, .ptr i137 [] 0, .ptr i138 [] 0, .ptr i139 [] 0, .int .i64 0] G116)) → J115 [x134, x135, x136, .ptr i137 [] 0, .ptr i138 [] 0, .ptr i139 [] 0] G116) →
  (∀ R117 : List AVal → Heap → Prop,
  (∀ (x119 : AVal) (x120 : AVal) (x121 : AVal) (i122 : AId) (i123 : AId) (i124 : AId) (x125 : AVal) (G118 : Heap), (wv (vload T G118 t_sl_api_Update (.ptr i123 [5] 5)) fun v126 => wv (vlen T G118 t_sl_api_Update v126) fun v127 => wv (vbin T .lss t_int x125 v127) fun v128 => brB (some v128)
  (wv (vload T G118 t_sl_api_Update (.ptr i123 [5] 5)) fun v129 => wv (vbuild T t_api_Update [(0, .int .i64 (-2))]) fun v130 => wv (viaddr T t_sl_api_Update v129 x125) fun v131 => wg (vstore T G118 t_api_Update v131 v130) fun G132 => wv (vbin T .add t_int x125 (.int .i64 1)) fun v133 => R117 [x119, x120, x121, .ptr i122 [] 0, .ptr i123 [] 0, .ptr i124 [] 0, v133] G132)
  (J115 [x119, x120, x121, .ptr i122 [] 0, .ptr i123 [] 0, .ptr i124 [] 0] G118)) → R117 [x119, x120, x121, .ptr i122 [] 0, .ptr i123 [] 0, .ptr i124 [] 0, x125] G118) →
  R117 [x109, x110, x111, .ptr i112 [] 0, .ptr i113 [] 0, .ptr i114 [] 0, .int .i64 0] G91)) → J90 [x109, x110, x111, .ptr i112 [] 0, .ptr i113 [] 0, .ptr i114 [] 0] G91) →
  (∀ R92 : List AVal → Heap → Prop,
  (∀ (x94 : AVal) (x95 : AVal) (x96 : AVal) (i97 : AId) (i98 : AId) (i99 : AId) (x100 : AVal) (G93 : Heap), (wv (vload T G93 t_sl_api_Update (.ptr i98 [4] 4)) fun v101 => wv (vlen T G93 t_sl_api_Update v101) fun v102 => wv (vbin T .lss t_int x100 v102) fun v103 => brB (some v103)
  (wv (vload T G93 t_sl_api_Update (.ptr i98 [4] 4)) fun v104 => wv (vbuild T t_api_Update [(0, .int .i64 (-1))]) fun v105 => wv (viaddr T t_sl_api_Update v104 x100) fun v106 => wg (vstore T G93 t_api_Update v106 v105) fun G107 => wv (vbin T .add t_int x100 (.int .i64 1)) fun v108 => R92 [x94, x95, x96, .ptr i97 [] 0, .ptr i98 [] 0, .ptr i99 [] 0, v108] G107)
  (J90 [x94, x95, x96, .ptr i97 [] 0, .ptr i98 [] 0, .ptr i99 [] 0] G93)) → R92 [x94, x95, x96, .ptr i97 [] 0, .ptr i98 [] 0, .ptr i99 [] 0, x100] G93) →
  R92 [x84, x85, x86, .ptr i87 [] 0, .ptr i88 [] 0, .ptr i89 [] 0, .int .i64 0] G45)) → J44 [x84, x85, x86, .ptr i87 [] 0, .ptr i88 [] 0, .ptr i89 [] 0] G45) →
  (∀ J46 : List AVal → Heap → Prop,
  (∀ (x77 : AVal) (x78 : AVal) (x79 : AVal) (i80 : AId) (i81 : AId) (i82 : AId) (x83 : AVal) (G47 : Heap), (brB (some x83)
  (Q (.bool false) G47)
  (J44 [x77, x78, x79, .ptr i80 [] 0, .ptr i81 [] 0, .ptr i82 [] 0] G47)) → J46 [x77, x78, x79, .ptr i80 [] 0, .ptr i81 [] 0, .ptr i82 [] 0, x83] G47) →
  (let J76 : AVal → Heap → Prop := (fun x75 G74 => J46 [a0, a1, a2, .ptr i17 [] 0, .ptr i32 [] 0, .ptr i41 [] 0, x75] G74);
  wv (vbin T .neq t_api_Errno v31 (.int .i64 0)) fun v48 => brB (some v48)
  (J76 (.bool true) G43)
  (wv (vbin T .neq t_api_Errno v40 (.int .i64 0)) fun v49 => brB (some v49)
  (J76 (.bool true) G43)
  (wv (vload T G43 t_sl_api_Update (.ptr i32 [4] 4)) fun v50 => ACalls P escrowlaw17_sameList.n [v50, a0] G43 fun v51 G52 => wv (vun .not v51) fun v53 => brB (some v53)
  (J76 (.bool true) G52)
  (wv (vload T G52 t_sl_api_Update (.ptr i32 [5] 5)) fun v54 => ACalls P escrowlaw17_sameList.n [v54, a1] G52 fun v55 G56 => wv (vun .not v55) fun v57 => brB (some v57)
  (J76 (.bool true) G56)
  (wv (vload T G56 t_sl_api_Update (.ptr i41 [4] 4)) fun v58 => ACalls P escrowlaw17_sameList.n [v58, a0] G56 fun v59 G60 => wv (vun .not v59) fun v61 => brB (some v61)
  (J76 (.bool true) G60)
  (wv (vload T G60 t_sl_api_Update (.ptr i41 [5] 5)) fun v62 => ACalls P escrowlaw17_sameList.n [v62, a1] G60 fun v63 G64 => wv (vun .not v63) fun v65 => brB (some v65)
  (J76 (.bool true) G64)
  (wv (vload T G64 t_sl_api_Slot (.ptr i32 [15] 112)) fun v66 => wv (vlen T G64 t_sl_api_Slot v66) fun v67 => wv (vlen T G64 t_sl_api_Slot a2) fun v68 => wv (vbin T .neq t_int v67 v68) fun v69 => brB (some v69)
  (J76 (.bool true) G64)
  (wv (vload T G64 t_sl_api_Slot (.ptr i41 [15] 112)) fun v70 => wv (vlen T G64 t_sl_api_Slot v70) fun v71 => wv (vlen T G64 t_sl_api_Slot a2) fun v72 => wv (vbin T .neq t_int v71 v72) fun v73 => J76 v73 G64))))))))))
def escrowlaw17_RecordApart.an : Ann := .two (.nil) (.two (.nil) (.two (.nil) (.two (.nil) (.two (.nil) (.two (.nil) (.cut [0, 1, 2, 9, 11, 13] [false, false, false, true, true, true] (.cut [0, 1, 2, 9, 11, 13, 99] [false, false, false, true, true, true, false] (.nil) (.nil)) (.cut [0, 1, 2, 9, 11, 13] [false, false, false, true, true, true] (.two (.nil) (.loop [0, 1, 2, 9, 11, 13, 15] [false, false, false, true, true, true, false] (.nil))) (.cut [0, 1, 2, 9, 11, 13] [false, false, false, true, true, true] (.two (.nil) (.loop [0, 1, 2, 9, 11, 13, 16] [false, false, false, true, true, true, false] (.nil))) (.cut [0, 1, 2, 9, 11, 13] [false, false, false, true, true, true] (.two (.nil) (.loop [0, 1, 2, 9, 11, 13, 17] [false, false, false, true, true, true, false] (.nil))) (.two (.nil) (.two (.nil) (.two (.nil) (.two (.nil) (.two (.nil) (.two (.nil) (.two (.nil) (.two (.nil) (.two (.nil) (.cut [0, 1, 2, 9, 11, 13, 18, 19, 20] [false, false, false, true, true, true, false, false, false] (.cut [0, 1, 2, 9, 11, 13, 18, 19, 20, 229] [false, false, false, true, true, true, false, false, false, false] (.nil) (.nil)) (.cut [0, 1, 9, 11, 13, 18, 19] [false, false, true, true, true, false, false] (.two (.nil) (.loop [0, 1, 2, 9, 11, 13, 18, 19, 20, 21] [false, false, false, true, true, true, false, false, false, false] (.two (.nil) (.cut [0, 1, 2, 9, 11, 13, 18, 19, 20, 21] [false, false, false, true, true, true, false, false, false, false] (.cut [0, 1, 2, 9, 11, 13, 18, 19, 20, 21, 265] [false, false, false, true, true, true, false, false, false, false, false] (.ord [(0, []), (1, []), (2, []), (3, []), (4, []), (5, []), (6, []), (7, []), (8, []), (9, []), (10, []), (11, []), (12, []), (13, []), (14, []), (15, []), (16, []), (17, []), (18, []), (19, []), (20, []), (21, []), (22, []), (23, []), (24, []), (25, []), (26, []), (27, []), (28, []), (29, []), (30, [])]) (.nil)) (.nil))))) (.cut [8] [false] (.nil) (.nil))))))))))))))))))))))
set_option maxRecDepth 100000 in
theorem escrowlaw17_RecordApart.sound {a0 a1 a2 a3 : AVal} {G : Heap} {Q : AVal → Heap → Prop} (h : escrowlaw17_RecordApart.S a0 a1 a2 a3 G Q) : ACalls P escrowlaw17_RecordApart.n [a0, a1, a2, a3] G Q := by
  have e : escrowlaw17_RecordApart.S a0 a1 a2 a3 G Q = awp cx (escrowlaw17_RecordApart.body) escrowlaw17_RecordApart.an (bodyQ T [.tmp 8] Q) (envL [a0, a1, a2, a3]) G := by kernel_rfl
  exact ACalls_of_awp cxOk (f := escrowlaw17_RecordApart.n) (fn := Try.f5) (c := escrowlaw17_RecordApart.body) (an := escrowlaw17_RecordApart.an) Try.func5 (by kernel_rfl) (by kernel_rfl) (by kernel_rfl) (drawsOk_of (by kernel_rfl) (by kernel_rfl)) (by simp [Try.f5]) (e ▸ h)

end Go.Esc.M
