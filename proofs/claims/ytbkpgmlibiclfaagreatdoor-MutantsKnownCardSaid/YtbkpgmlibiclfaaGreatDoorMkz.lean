/- The closed law MutantsKnown, reckoned from its calls. -/
import Derived.Test.YtbkpgmlibiclfaaGreatDoorMkr1
import Derived.Test.YtbkpgmlibiclfaaGreatDoorMkr2
import Derived.Test.YtbkpgmlibiclfaaGreatDoorMkr3
import Derived.Test.YtbkpgmlibiclfaaGreatDoorMkr4
import Derived.Test.YtbkpgmlibiclfaaGreatDoorMkr5
import Derived.Test.YtbkpgmlibiclfaaGreatDoorMkr6
import Derived.Test.YtbkpgmlibiclfaaGreatDoorMkr7
import Derived.Test.YtbkpgmlibiclfaaGreatDoorMkr8
import Derived.Test.YtbkpgmlibiclfaaGreatDoorMkr9
import Derived.Test.YtbkpgmlibiclfaaGreatDoorMkr10
set_option maxRecDepth 4000

namespace Go.Ev
open Go.RowKit
open Go.Proofs
open Go.Proofs.YtbkpgmlibiclfaaGreatDoor (Glob)
theorem mem_cons_ok {P : Program} {l : List (Nat × (Cal → V → H → Nm → C))} {f : Nat} {g : Cal → V → H → Nm → C} (h : OrcOk P f g) (hl : ∀ p ∈ l, OrcOk P p.1 p.2) : ∀ p ∈ (f, g) :: l, OrcOk P p.1 p.2 := fun p hp => by
 rcases List.mem_cons.1 hp with rfl | hp
 · exact h
 · exact hl p hp
theorem xn {Q : Nat × List Mem2 → Prop} : ∀ p ∈ ([] : Grp), Q p := fun _ h => (by cases h)
theorem xa {P : Program} {O : Orc} {f : Nat} {c l : Grp} (h : runsK P O f c = true) (hl : ∀ p ∈ l, ∀ e ∈ p.2, mem2Run P O 3000 60 f e = true) : ∀ p ∈ appG c l, ∀ e ∈ p.2, mem2Run P O 3000 60 f e = true := runsK_app c h hl
theorem oMk0_ok : ∀ p ∈ oMk0, OrcOk Tryz.prog p.1 p.2 := mem_cons_ok (memKs_ok (pick_ok orcsL_ok) Tryz.func30 (by kernel_rfl) ek0 (xa rk0 (xa rk1 (xa rk2 (xa rk3 (xa rk4 (xa rk5 (xa rk6 (xa rk7 (xa rk8 (xa rk9 xn))))))))))) orcsL_ok
theorem oMk1_ok : ∀ p ∈ oMk1, OrcOk Tryz.prog p.1 p.2 := mem_cons_ok (memKs_ok (pick_ok oMk0_ok) Tryz.func32 (by kernel_rfl) ek1 (xa rk10 xn)) oMk0_ok
theorem oMk2_ok : ∀ p ∈ oMk2, OrcOk Tryz.prog p.1 p.2 := mem_cons_ok (memKs_ok (pick_ok oMk1_ok) Tryz.func49 (by kernel_rfl) ek2 (xa rk11 xn)) oMk1_ok
theorem oMk3_ok : ∀ p ∈ oMk3, OrcOk Tryz.prog p.1 p.2 := mem_cons_ok (memKs_ok (pick_ok oMk2_ok) Tryz.func152 (by kernel_rfl) ek3 (xa rk12 xn)) oMk2_ok
theorem oMk4_ok : ∀ p ∈ oMk4, OrcOk Tryz.prog p.1 p.2 := mem_cons_ok (memKs_ok (pick_ok oMk3_ok) Tryz.func215 (by kernel_rfl) ek4 (xa rk13 (xa rk14 (xa rk15 (xa rk16 (xa rk17 (xa rk18 (xa rk19 (xa rk20 (xa rk21 (xa rk22 (xa rk23 (xa rk24 (xa rk25 xn)))))))))))))) oMk3_ok
theorem oMk5_ok : ∀ p ∈ oMk5, OrcOk Tryz.prog p.1 p.2 := mem_cons_ok (memKs_ok (pick_ok oMk4_ok) Tryz.func218 (by kernel_rfl) ek5 (xa rk26 xn)) oMk4_ok
theorem oMk6_ok : ∀ p ∈ oMk6, OrcOk Tryz.prog p.1 p.2 := mem_cons_ok (memKs_ok (pick_ok oMk5_ok) Tryz.func223 (by kernel_rfl) ek6 (xa rk27 xn)) oMk5_ok
theorem oMk7_ok : ∀ p ∈ oMk7, OrcOk Tryz.prog p.1 p.2 := mem_cons_ok (memKs_ok (pick_ok oMk6_ok) Tryz.func230 (by kernel_rfl) ek7 (xa rk28 xn)) oMk6_ok
theorem oMk8_ok : ∀ p ∈ oMk8, OrcOk Tryz.prog p.1 p.2 := mem_cons_ok (memKs_ok (pick_ok oMk7_ok) Tryz.func452 (by kernel_rfl) ek8 (xa rk29 xn)) oMk7_ok
theorem oMk9_ok : ∀ p ∈ oMk9, OrcOk Tryz.prog p.1 p.2 := mem_cons_ok (memKs_ok (pick_ok oMk8_ok) Tryz.func453 (by kernel_rfl) ek9 (xa rk30 (xa rk31 (xa rk32 (xa rk33 (xa rk34 (xa rk35 xn))))))) oMk8_ok
theorem oMk10_ok : ∀ p ∈ oMk10, OrcOk Tryz.prog p.1 p.2 := mem_cons_ok (memKs_ok (pick_ok oMk9_ok) Tryz.func26 (by kernel_rfl) ek10 (xa rk36 (xa rk37 (xa rk38 (xa rk39 (xa rk40 (xa rk41 (xa rk42 (xa rk43 (xa rk44 (xa rk45 (xa rk46 (xa rk47 (xa rk48 (xa rk49 (xa rk50 xn)))))))))))))))) oMk9_ok
theorem oMk11_ok : ∀ p ∈ oMk11, OrcOk Tryz.prog p.1 p.2 := mem_cons_ok (memKs_ok (pick_ok oMk10_ok) Tryz.func31 (by kernel_rfl) ek11 (xa rk51 xn)) oMk10_ok
theorem oMk12_ok : ∀ p ∈ oMk12, OrcOk Tryz.prog p.1 p.2 := mem_cons_ok (memKs_ok (pick_ok oMk11_ok) Tryz.func129 (by kernel_rfl) ek12 (xa rk52 xn)) oMk11_ok
theorem oMk13_ok : ∀ p ∈ oMk13, OrcOk Tryz.prog p.1 p.2 := mem_cons_ok (memKs_ok (pick_ok oMk12_ok) Tryz.func130 (by kernel_rfl) ek13 (xa rk53 xn)) oMk12_ok
theorem oMk14_ok : ∀ p ∈ oMk14, OrcOk Tryz.prog p.1 p.2 := mem_cons_ok (memKs_ok (pick_ok oMk13_ok) Tryz.func88 (by kernel_rfl) ek14 (xa rk54 (xa rk55 (xa rk56 (xa rk57 (xa rk58 (xa rk59 (xa rk60 (xa rk61 (xa rk62 (xa rk63 xn))))))))))) oMk13_ok
theorem oMk15_ok : ∀ p ∈ oMk15, OrcOk Tryz.prog p.1 p.2 := mem_cons_ok (memKs_ok (pick_ok oMk14_ok) Tryz.func171 (by kernel_rfl) ek15 (xa rk64 (xa rk65 (xa rk66 (xa rk67 (xa rk68 (xa rk69 (xa rk70 (xa rk71 (xa rk72 (xa rk73 (xa rk74 (xa rk75 (xa rk76 (xa rk77 (xa rk78 (xa rk79 (xa rk80 (xa rk81 xn))))))))))))))))))) oMk14_ok
theorem oMk16_ok : ∀ p ∈ oMk16, OrcOk Tryz.prog p.1 p.2 := mem_cons_ok (memKs_ok (pick_ok oMk15_ok) Tryz.func201 (by kernel_rfl) ek16 (xa rk82 (xa rk83 (xa rk84 (xa rk85 (xa rk86 (xa rk87 (xa rk88 (xa rk89 (xa rk90 (xa rk91 (xa rk92 (xa rk93 (xa rk94 (xa rk95 (xa rk96 (xa rk97 (xa rk98 (xa rk99 (xa rk100 (xa rk101 (xa rk102 (xa rk103 (xa rk104 (xa rk105 (xa rk106 (xa rk107 (xa rk108 (xa rk109 (xa rk110 (xa rk111 (xa rk112 (xa rk113 (xa rk114 (xa rk115 (xa rk116 (xa rk117 (xa rk118 xn)))))))))))))))))))))))))))))))))))))) oMk15_ok
theorem oMk17_ok : ∀ p ∈ oMk17, OrcOk Tryz.prog p.1 p.2 := mem_cons_ok (memKs_ok (pick_ok oMk16_ok) Tryz.func205 (by kernel_rfl) ek17 (xa rk119 (xa rk120 (xa rk121 (xa rk122 (xa rk123 xn)))))) oMk16_ok
theorem oMk18_ok : ∀ p ∈ oMk18, OrcOk Tryz.prog p.1 p.2 := mem_cons_ok (memKs_ok (pick_ok oMk17_ok) Tryz.func216 (by kernel_rfl) ek18 (xa rk124 (xa rk125 (xa rk126 (xa rk127 (xa rk128 (xa rk129 (xa rk130 (xa rk131 (xa rk132 (xa rk133 xn))))))))))) oMk17_ok
theorem oMk19_ok : ∀ p ∈ oMk19, OrcOk Tryz.prog p.1 p.2 := mem_cons_ok (memKs_ok (pick_ok oMk18_ok) Tryz.func12 (by kernel_rfl) ek19 (xa rk134 (xa rk135 (xa rk136 (xa rk137 (xa rk138 (xa rk139 (xa rk140 (xa rk141 (xa rk142 (xa rk143 (xa rk144 (xa rk145 (xa rk146 (xa rk147 (xa rk148 (xa rk149 (xa rk150 (xa rk151 (xa rk152 (xa rk153 (xa rk154 (xa rk155 (xa rk156 (xa rk157 (xa rk158 (xa rk159 (xa rk160 (xa rk161 (xa rk162 (xa rk163 (xa rk164 (xa rk165 (xa rk166 (xa rk167 (xa rk168 (xa rk169 (xa rk170 (xa rk171 (xa rk172 (xa rk173 (xa rk174 (xa rk175 (xa rk176 (xa rk177 (xa rk178 (xa rk179 (xa rk180 (xa rk181 (xa rk182 (xa rk183 (xa rk184 (xa rk185 (xa rk186 (xa rk187 (xa rk188 (xa rk189 (xa rk190 (xa rk191 (xa rk192 (xa rk193 (xa rk194 (xa rk195 (xa rk196 (xa rk197 (xa rk198 (xa rk199 (xa rk200 (xa rk201 (xa rk202 (xa rk203 (xa rk204 (xa rk205 (xa rk206 (xa rk207 (xa rk208 (xa rk209 (xa rk210 (xa rk211 (xa rk212 (xa rk213 (xa rk214 (xa rk215 (xa rk216 (xa rk217 (xa rk218 (xa rk219 (xa rk220 (xa rk221 (xa rk222 (xa rk223 (xa rk224 (xa rk225 (xa rk226 (xa rk227 (xa rk228 (xa rk229 (xa rk230 (xa rk231 (xa rk232 (xa rk233 (xa rk234 (xa rk235 (xa rk236 (xa rk237 (xa rk238 (xa rk239 (xa rk240 (xa rk241 (xa rk242 (xa rk243 (xa rk244 (xa rk245 (xa rk246 (xa rk247 (xa rk248 (xa rk249 (xa rk250 (xa rk251 (xa rk252 (xa rk253 (xa rk254 (xa rk255 (xa rk256 (xa rk257 (xa rk258 (xa rk259 (xa rk260 (xa rk261 (xa rk262 (xa rk263 (xa rk264 (xa rk265 (xa rk266 (xa rk267 (xa rk268 (xa rk269 xn))))))))))))))))))))))))))))))))))))))))))))))))))))))))))))))))))))))))))))))))))))))))))))))))))))))))))))))))))))))))))))))))))))))))) oMk18_ok
theorem oMk20_ok : ∀ p ∈ oMk20, OrcOk Tryz.prog p.1 p.2 := mem_cons_ok (memKs_ok (pick_ok oMk19_ok) Tryz.func18 (by kernel_rfl) ek20 (xa rk270 (xa rk271 (xa rk272 (xa rk273 (xa rk274 (xa rk275 (xa rk276 (xa rk277 (xa rk278 (xa rk279 (xa rk280 xn)))))))))))) oMk19_ok
theorem oMk21_ok : ∀ p ∈ oMk21, OrcOk Tryz.prog p.1 p.2 := mem_cons_ok (memKs_ok (pick_ok oMk20_ok) Tryz.func6 (by kernel_rfl) ek21 (xa rk281 xn)) oMk20_ok
theorem oMk22_ok : ∀ p ∈ oMk22, OrcOk Tryz.prog p.1 p.2 := mem_cons_ok (memKs_ok (pick_ok oMk21_ok) Tryz.func13 (by kernel_rfl) ek22 (xa rk282 (xa rk283 (xa rk284 (xa rk285 (xa rk286 (xa rk287 (xa rk288 (xa rk289 (xa rk290 (xa rk291 (xa rk292 (xa rk293 (xa rk294 (xa rk295 (xa rk296 (xa rk297 (xa rk298 (xa rk299 (xa rk300 (xa rk301 (xa rk302 (xa rk303 (xa rk304 (xa rk305 (xa rk306 (xa rk307 (xa rk308 (xa rk309 (xa rk310 (xa rk311 (xa rk312 (xa rk313 (xa rk314 (xa rk315 (xa rk316 (xa rk317 (xa rk318 (xa rk319 (xa rk320 (xa rk321 (xa rk322 (xa rk323 (xa rk324 (xa rk325 (xa rk326 (xa rk327 (xa rk328 (xa rk329 (xa rk330 (xa rk331 (xa rk332 (xa rk333 (xa rk334 (xa rk335 (xa rk336 (xa rk337 (xa rk338 (xa rk339 (xa rk340 (xa rk341 (xa rk342 (xa rk343 (xa rk344 (xa rk345 (xa rk346 (xa rk347 (xa rk348 (xa rk349 (xa rk350 (xa rk351 (xa rk352 (xa rk353 (xa rk354 (xa rk355 (xa rk356 (xa rk357 (xa rk358 (xa rk359 (xa rk360 (xa rk361 (xa rk362 (xa rk363 (xa rk364 (xa rk365 (xa rk366 (xa rk367 (xa rk368 (xa rk369 (xa rk370 (xa rk371 (xa rk372 (xa rk373 (xa rk374 (xa rk375 (xa rk376 (xa rk377 (xa rk378 (xa rk379 (xa rk380 (xa rk381 (xa rk382 (xa rk383 (xa rk384 (xa rk385 (xa rk386 (xa rk387 (xa rk388 (xa rk389 (xa rk390 (xa rk391 (xa rk392 (xa rk393 (xa rk394 (xa rk395 (xa rk396 (xa rk397 (xa rk398 (xa rk399 (xa rk400 (xa rk401 (xa rk402 (xa rk403 (xa rk404 (xa rk405 (xa rk406 (xa rk407 (xa rk408 (xa rk409 (xa rk410 (xa rk411 (xa rk412 (xa rk413 (xa rk414 (xa rk415 (xa rk416 (xa rk417 (xa rk418 (xa rk419 (xa rk420 (xa rk421 (xa rk422 (xa rk423 (xa rk424 (xa rk425 (xa rk426 (xa rk427 (xa rk428 (xa rk429 (xa rk430 (xa rk431 (xa rk432 (xa rk433 (xa rk434 (xa rk435 (xa rk436 (xa rk437 (xa rk438 (xa rk439 (xa rk440 (xa rk441 (xa rk442 (xa rk443 (xa rk444 (xa rk445 (xa rk446 (xa rk447 (xa rk448 (xa rk449 (xa rk450 (xa rk451 (xa rk452 (xa rk453 (xa rk454 (xa rk455 (xa rk456 (xa rk457 (xa rk458 (xa rk459 (xa rk460 (xa rk461 (xa rk462 (xa rk463 (xa rk464 (xa rk465 (xa rk466 (xa rk467 (xa rk468 (xa rk469 (xa rk470 (xa rk471 xn))))))))))))))))))))))))))))))))))))))))))))))))))))))))))))))))))))))))))))))))))))))))))))))))))))))))))))))))))))))))))))))))))))))))))))))))))))))))))))))))))))))))))))))))))))))))))))))) oMk21_ok
theorem oMk23_ok : ∀ p ∈ oMk23, OrcOk Tryz.prog p.1 p.2 := mem_cons_ok (memKs_ok (pick_ok oMk22_ok) Tryz.func4 (by kernel_rfl) ek23 (xa rk472 (xa rk473 (xa rk474 xn)))) oMk22_ok
theorem oMk24_ok : ∀ p ∈ oMk24, OrcOk Tryz.prog p.1 p.2 := mem_cons_ok (memKs_ok (pick_ok oMk23_ok) Tryz.func5 (by kernel_rfl) ek24 (xa rk475 (xa rk476 (xa rk477 (xa rk478 (xa rk479 (xa rk480 (xa rk481 (xa rk482 (xa rk483 xn)))))))))) oMk23_ok
noncomputable def oMkLAST : List (Nat × (Cal → V → H → Nm → C)) := oMk24
theorem oMkLAST_ok : ∀ p ∈ oMkLAST, OrcOk Tryz.prog p.1 p.2 := oMk24_ok
theorem mutantsKnown_run : closedTrue Tryz.prog (pick oMk24) 3 = true := by kernel_rfl
theorem mutantsKnown_law (w : World) (h1 : Glob w) (h2 : Sizes w) : Calls Tryz.prog 3 #[] w fun e w' => e = .returned (.bool true) ∧ Below w.heap.size w w' := law_of (pick_ok oMk24_ok) Tryz.func3 (by kernel_rfl) mutantsKnown_run h1 h2
end Go.Ev
