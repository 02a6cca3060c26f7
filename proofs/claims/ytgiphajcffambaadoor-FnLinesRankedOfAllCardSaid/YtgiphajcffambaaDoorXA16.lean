/- The Lean functions that the Go functions of this seat compute, each with the proof that the Go function computes it, for every input (laws: FnLinesRankedOfAll). Conditions: none beyond those that each theorem names. Written by a program of this session over the kit's printer. -/
import Derived.Test.YtgiphajcffambaaDoorXA11
import Derived.Laws.Cover1
import Derived.Test.YtgiphajcffambaaDoorXA0
import Derived.Test.YtgiphajcffambaaDoorXA3
import Derived.Test.YtgiphajcffambaaDoorXA4
import Derived.Test.YtgiphajcffambaaDoorXA5
import Derived.Test.YtgiphajcffambaaDoorXA6
import Derived.Test.YtgiphajcffambaaDoorXA7
import Derived.Test.YtgiphajcffambaaDoorXA8
import Derived.Test.YtgiphajcffambaaDoorXA9
namespace Go.Proofs.YtgiphajcffambaaDoor.XA
open Go.RowKit Go.Proofs.YtgiphajcffambaaDoorW.PrintWords Go.Proofs.YtgiphajcffambaaDoorW.PrintLast Go.Proofs.YtgiphajcffambaaDoorW.PrintMore
attribute [local go_sem] max2_int min2_int max_two min_two max_three min_three max_four min_four   -- for this text's walks alone
attribute [local go_sem] Lib.run_min_strs Go.Proofs.YtgiphajcffambaaDoorXW.run_min2_strs Go.Proofs.YtgiphajcffambaaDoorXW.run_int_string
set_option linter.unusedVariables false
set_option linter.unusedSimpArgs false

set_option maxHeartbeats 8000000 in
set_option maxRecDepth 100000 in
theorem laws_FnLinesRankedOfAll.part5 : laws_FnLinesRankedOfAll.parts.1.2.2.2.2 := by
  unfold laws_FnLinesRankedOfAll.parts
  intro k a0 a1 a2 a3 a4 a5 A6 c6 l6 r w hu46 HR6 HC6 in1 in2 in3 u71 u72 u73 u74 u75 u76 u77 u78 u79 u80 u81 u82 u83 u84 u85 u86 u87 u88 u89 kj7 HJ7 t207 t208 A12 t209 t210 A13 t211 t212 t213 t214 A14 t215 t216 t217 t218 A15 t219 t220 A16 t221 t222 A17 w19 in4 w20 in5 w21 in6 in7 in8 u91 u92 u93 u94 u95 u96 u97 u98 u99 u100 u101 u102 u103 u104 u105 u106 u107 u108 u109 u110 u111 u112 u113 u114 u115 u116 u117 u118 u119 u120 u121 u122 u123 u124 u125 u126 u127 u128 u129 u130 u131 u132 u133 u134 u135 u136 u137 u138 u139 u140 u141 u142 u143 u144 u145 u146 u147 u148 u149 u150 u151 u152 u153 u154 u155 u156 u157 u158 u159 u160 u161 u162 u163 u164 u165 u166 u167 u168 u169 u170 u171 in9 kj17 HJ17 in10 in11 u31 u32 u33 u34 u35 u36 u37 u38 u39 u40 u41 u42 u173 u174 u175 u176 u177 u178 u179 u180 u181 u182 u183 u184 u185 u186 u187 u188 u189 u190 u191 u192 u193 u194 u195 u196 u197 u198 u199 u200 u201 u202 u203 u204 u205 u206 u207 u208 u209 u210 u211 u212 u213 u214 u215 u216 u217 u218 u219 u220 u221 u222 u223 u224 u225 u226 u227 u228 u229 u230 u231 u232 u233 u234 u235 u236 u237 u238 u239 u240 u241 u242 u243 u244 u245 u246 u247 u248 u249 u250 u251 u252 u253 u254 u255 u256 u257 in12 in13 in14 in15 in16 in17 in18 in19 in20 in21 in22 in23 in24 in25 in26 in27 in28 in29 in30 in31 kj31 HJ31 t235 t236 A61 t237 t238 A62 t239 t240 A63 t241 t242 A64 t243 t244 A65 t245 t246 A66 t247 t248 A67 t249 t250 A68 t251 t252 A69 t253 t254 A70 w72 w73 w74 w75 nd w76 w77 w78 w79 w80 in32 in33 u258 u259 u260 u261 u262 u263 u264 u265 u266 u267 u268 u269 u270 u271 u272 u273 u274 u275 u276 u277 u278 u279 u280 u281 u282 u283 u284 u285 u286 u287 u288 u289 u290 u291 u292 u293 u294 u295 u296 u297 u298 u299 u300 u301 u302 u303 u304 u305 u306 u307 u308 u309 u310 u311 u312 u313 u314 u315 u316 u317 u318 u319 u320 u321 u322 u323 u324 u325 u326 u327 u328 u329 u330 u331 u332 u333 u334 u335 u336 u337 u338 u339 u340 u341 u342 u343 u344 u345 u346 u347 u348 u349 u350 u351 u352 u353 u354 u355 u356 u357 u358 u359 u360 u361 u362 u363 u364 u365 u366 u367 u368 u369 u370 u371 u372 u373 u374 u375 u376 u377 u378 u379 u380 u381 u382 u383 u384 u385 u386 u387 u388 u389 u390 u391 u392 u393 u394 u395 u396 u397 u398 u399 u400 u401 u402 u403 in34 kj70 HJ70 wc u14 u63 u64 u405 u406 u407 u408 u409 u410 u411 u412 u413 u414 u415 u416 u417 u418 u419 u420 u421 u422 HB kj93 HJ93 HC104 in35 in36 in37 in38 in39 in40
  have H := HC104.out
  clear HC104
  by_cases c105 : t240 = true
  · subst c105
    have H1 : ((impl_PairsToPass.f kj93 t239).bind fun bt257 => ((impl_WayToGo.f kj93 t239).bind fun bt259 => (if bt257.2 = true then (if bt257.1 = (wrap64 (a1 * a3)) then (if bt259.2 = true then (if bt259.1 = (wrap64 ((wrap64 (a1 * (wrap64 (a2 + a3)))) + (wrap64 (a3 * (wrap64 (a1 + a2)))))) then (laws_FnLinesRankedOfAll.j6 kj93 a5 l6 t247 t248 t251 t252) else (some false)) else (some false)) else (some false)) else (some false)))) = some r := by rw [if_pos rfl] at H; exact H
    clear H
    have H := H1
    clear H1
    replace H := Option.bind_eq_some_iff.mp H
    obtain ⟨⟨t257, t258⟩, A1060, H⟩ := H
    replace H : ((impl_WayToGo.f kj93 t239).bind fun bt259 => (if t258 = true then (if t257 = (wrap64 (a1 * a3)) then (if bt259.2 = true then (if bt259.1 = (wrap64 ((wrap64 (a1 * (wrap64 (a2 + a3)))) + (wrap64 (a3 * (wrap64 (a1 + a2)))))) then (laws_FnLinesRankedOfAll.j6 kj93 a5 l6 t247 t248 t251 t252) else (some false)) else (some false)) else (some false)) else (some false))) = some r := H
    have A106 := Aside0.mk A1060
    clear A1060
    replace H := Option.bind_eq_some_iff.mp H
    obtain ⟨⟨t259, t260⟩, A1070, H⟩ := H
    replace H : (if t258 = true then (if t257 = (wrap64 (a1 * a3)) then (if t260 = true then (if t259 = (wrap64 ((wrap64 (a1 * (wrap64 (a2 + a3)))) + (wrap64 (a3 * (wrap64 (a1 + a2)))))) then (laws_FnLinesRankedOfAll.j6 kj93 a5 l6 t247 t248 t251 t252) else (some false)) else (some false)) else (some false)) else (some false)) = some r := H
    have A107 := Aside0.mk A1070
    clear A1070
    by_cases c108 : t258 = true
    · subst c108
      have H1 : (if t257 = (wrap64 (a1 * a3)) then (if t260 = true then (if t259 = (wrap64 ((wrap64 (a1 * (wrap64 (a2 + a3)))) + (wrap64 (a3 * (wrap64 (a1 + a2)))))) then (laws_FnLinesRankedOfAll.j6 kj93 a5 l6 t247 t248 t251 t252) else (some false)) else (some false)) else (some false)) = some r := by rw [if_pos rfl] at H; exact H
      clear H
      have H := H1
      clear H1
      by_cases c109 : t257 = (wrap64 (a1 * a3))
      · rw [if_pos c109] at H
        have c109b0 : (t257 == (wrap64 (a1 * a3))) = true := beq_iff_eq.mpr c109
        have c109b1 : (t257 != (wrap64 (a1 * a3))) = false := bne_eq_false_iff_eq.mpr c109
        clear c109
        (first | rw [c109b0] | (simp only [i64_w, i32_w]; rw [c109b0]) | skip)
        by_cases c110 : t260 = true
        · subst c110
          have H1 : (if t259 = (wrap64 ((wrap64 (a1 * (wrap64 (a2 + a3)))) + (wrap64 (a3 * (wrap64 (a1 + a2)))))) then (laws_FnLinesRankedOfAll.j6 kj93 a5 l6 t247 t248 t251 t252) else (some false)) = some r := by rw [if_pos rfl] at H; exact H
          clear H
          have H := H1
          clear H1
          by_cases c111 : t259 = (wrap64 ((wrap64 (a1 * (wrap64 (a2 + a3)))) + (wrap64 (a3 * (wrap64 (a1 + a2))))))
          · rw [if_pos c111] at H
            have c111b0 : (t259 == (wrap64 ((wrap64 (a1 * (wrap64 (a2 + a3)))) + (wrap64 (a3 * (wrap64 (a1 + a2))))))) = true := beq_iff_eq.mpr c111
            have c111b1 : (t259 != (wrap64 ((wrap64 (a1 * (wrap64 (a2 + a3)))) + (wrap64 (a3 * (wrap64 (a1 + a2))))))) = false := bne_eq_false_iff_eq.mpr c111
            clear c111
            have H' := Aside0.mk H
            clear H
            go_wp2_with (first | ((with_reducible refine gate_callee (f := 35) rfl ?_); refine goesL_ (some 426) rfl rfl Tryd.func35 (by kernel_rfl) rfl #[.string t239] rfl (by (try simp only [List.map_toArray, List.map_cons, List.map_nil]); first | done | rfl | (simp only [List.length_drop, List.length_take]; rfl)) ?_; (with_reducible refine (impl_PairsToPass.calls kj93 t239 t257 true _ A106.out).mono ?_); rintro e w112 ⟨rfl, hb⟩; refine ⟨_, rfl, ?_⟩; have n0_ := Aside0.mk (below_step (by repeat (first | (with_reducible first | exact HB.out | apply below_alloc | apply pw_below_drewN | apply below_drew1) | exact HB.out)) hb); clear HB; have HB := n0_; clear n0_; (try clear hb); (try clear hb2); (try clear hk); (try clear hi)) | ((with_reducible refine gate_callee (f := 30) rfl ?_); refine goesL_ (some 431) rfl rfl Tryd.func30 (by kernel_rfl) rfl #[.string t239] rfl (by (try simp only [List.map_toArray, List.map_cons, List.map_nil]); first | done | rfl | (simp only [List.length_drop, List.length_take]; rfl)) ?_; (with_reducible refine (impl_WayToGo.calls kj93 t239 t259 true _ A107.out).mono ?_); rintro e w113 ⟨rfl, hb⟩; refine ⟨_, rfl, ?_⟩; have n0_ := Aside0.mk (below_step (by repeat (first | (with_reducible first | exact HB.out | apply below_alloc | apply pw_below_drewN | apply below_drew1) | exact HB.out)) hb); clear HB; have HB := n0_; clear n0_; (try clear hb); (try clear hb2); (try clear hk); (try clear hi)))
            go_meet
            case rel => exact ⟨_, H', ⟨by have := HJ7.out; have := HJ17.out; have := HJ31.out; have := HJ70.out; have := HJ93.out; first | omega | exact Nat.le_refl _⟩, ⟨by repeat (first | (with_reducible first | exact HB.out | apply below_alloc | apply pw_below_drewN | apply below_drew1) | exact HB.out)⟩⟩
          · rw [if_neg c111] at H
            have c111b0 : (t259 == (wrap64 ((wrap64 (a1 * (wrap64 (a2 + a3)))) + (wrap64 (a3 * (wrap64 (a1 + a2))))))) = false := beq_eq_false_iff_ne.mpr c111
            have c111b1 : (t259 != (wrap64 ((wrap64 (a1 * (wrap64 (a2 + a3)))) + (wrap64 (a3 * (wrap64 (a1 + a2))))))) = true := bne_iff_ne.mpr c111
            obtain rfl := Option.some.inj H
            go_wp2_with (first | ((with_reducible refine gate_callee (f := 35) rfl ?_); refine goesL_ (some 426) rfl rfl Tryd.func35 (by kernel_rfl) rfl #[.string t239] rfl (by (try simp only [List.map_toArray, List.map_cons, List.map_nil]); first | done | rfl | (simp only [List.length_drop, List.length_take]; rfl)) ?_; (with_reducible refine (impl_PairsToPass.calls kj93 t239 t257 true _ A106.out).mono ?_); rintro e w114 ⟨rfl, hb⟩; refine ⟨_, rfl, ?_⟩; have n0_ := Aside0.mk (below_step (by repeat (first | (with_reducible first | exact HB.out | apply below_alloc | apply pw_below_drewN | apply below_drew1) | exact HB.out)) hb); clear HB; have HB := n0_; clear n0_; (try clear hb); (try clear hb2); (try clear hk); (try clear hi)) | ((with_reducible refine gate_callee (f := 30) rfl ?_); refine goesL_ (some 431) rfl rfl Tryd.func30 (by kernel_rfl) rfl #[.string t239] rfl (by (try simp only [List.map_toArray, List.map_cons, List.map_nil]); first | done | rfl | (simp only [List.length_drop, List.length_take]; rfl)) ?_; (with_reducible refine (impl_WayToGo.calls kj93 t239 t259 true _ A107.out).mono ?_); rintro e w115 ⟨rfl, hb⟩; refine ⟨_, rfl, ?_⟩; have n0_ := Aside0.mk (below_step (by repeat (first | (with_reducible first | exact HB.out | apply below_alloc | apply pw_below_drewN | apply below_drew1) | exact HB.out)) hb); clear HB; have HB := n0_; clear n0_; (try clear hb); (try clear hb2); (try clear hk); (try clear hi)))
            go_ret
            exact ⟨by first | rfl | (simp [errW_none, errW_some] <;> rfl) | (simp [*, errW_none, errW_some] <;> rfl), by repeat (first | (with_reducible first | exact HB.out | apply below_alloc | apply pw_below_drewN | apply below_drew1) | exact HB.out)⟩
        · replace c110 := Bool.eq_false_iff.mpr c110
          subst c110
          have H1 : (some false) = some r := by rw [if_neg (show ¬ (false = true) by decide)] at H; exact H
          clear H
          have H := H1
          clear H1
          obtain rfl := Option.some.inj H
          go_wp2_with (first | ((with_reducible refine gate_callee (f := 35) rfl ?_); refine goesL_ (some 426) rfl rfl Tryd.func35 (by kernel_rfl) rfl #[.string t239] rfl (by (try simp only [List.map_toArray, List.map_cons, List.map_nil]); first | done | rfl | (simp only [List.length_drop, List.length_take]; rfl)) ?_; (with_reducible refine (impl_PairsToPass.calls kj93 t239 t257 true _ A106.out).mono ?_); rintro e w116 ⟨rfl, hb⟩; refine ⟨_, rfl, ?_⟩; have n0_ := Aside0.mk (below_step (by repeat (first | (with_reducible first | exact HB.out | apply below_alloc | apply pw_below_drewN | apply below_drew1) | exact HB.out)) hb); clear HB; have HB := n0_; clear n0_; (try clear hb); (try clear hb2); (try clear hk); (try clear hi)) | ((with_reducible refine gate_callee (f := 30) rfl ?_); refine goesL_ (some 431) rfl rfl Tryd.func30 (by kernel_rfl) rfl #[.string t239] rfl (by (try simp only [List.map_toArray, List.map_cons, List.map_nil]); first | done | rfl | (simp only [List.length_drop, List.length_take]; rfl)) ?_; (with_reducible refine (impl_WayToGo.calls kj93 t239 t259 false _ A107.out).mono ?_); rintro e w117 ⟨rfl, hb⟩; refine ⟨_, rfl, ?_⟩; have n0_ := Aside0.mk (below_step (by repeat (first | (with_reducible first | exact HB.out | apply below_alloc | apply pw_below_drewN | apply below_drew1) | exact HB.out)) hb); clear HB; have HB := n0_; clear n0_; (try clear hb); (try clear hb2); (try clear hk); (try clear hi)))
          go_ret
          exact ⟨by first | rfl | (simp [errW_none, errW_some] <;> rfl) | (simp [*, errW_none, errW_some] <;> rfl), by repeat (first | (with_reducible first | exact HB.out | apply below_alloc | apply pw_below_drewN | apply below_drew1) | exact HB.out)⟩
      · rw [if_neg c109] at H
        have c109b0 : (t257 == (wrap64 (a1 * a3))) = false := beq_eq_false_iff_ne.mpr c109
        have c109b1 : (t257 != (wrap64 (a1 * a3))) = true := bne_iff_ne.mpr c109
        (first | rw [c109b0] | (simp only [i64_w, i32_w]; rw [c109b0]) | skip)
        obtain rfl := Option.some.inj H
        go_wp2_with (first | ((with_reducible refine gate_callee (f := 35) rfl ?_); refine goesL_ (some 426) rfl rfl Tryd.func35 (by kernel_rfl) rfl #[.string t239] rfl (by (try simp only [List.map_toArray, List.map_cons, List.map_nil]); first | done | rfl | (simp only [List.length_drop, List.length_take]; rfl)) ?_; (with_reducible refine (impl_PairsToPass.calls kj93 t239 t257 true _ A106.out).mono ?_); rintro e w118 ⟨rfl, hb⟩; refine ⟨_, rfl, ?_⟩; have n0_ := Aside0.mk (below_step (by repeat (first | (with_reducible first | exact HB.out | apply below_alloc | apply pw_below_drewN | apply below_drew1) | exact HB.out)) hb); clear HB; have HB := n0_; clear n0_; (try clear hb); (try clear hb2); (try clear hk); (try clear hi)) | ((with_reducible refine gate_callee (f := 30) rfl ?_); refine goesL_ (some 431) rfl rfl Tryd.func30 (by kernel_rfl) rfl #[.string t239] rfl (by (try simp only [List.map_toArray, List.map_cons, List.map_nil]); first | done | rfl | (simp only [List.length_drop, List.length_take]; rfl)) ?_; (with_reducible refine (impl_WayToGo.calls kj93 t239 t259 t260 _ A107.out).mono ?_); rintro e w119 ⟨rfl, hb⟩; refine ⟨_, rfl, ?_⟩; have n0_ := Aside0.mk (below_step (by repeat (first | (with_reducible first | exact HB.out | apply below_alloc | apply pw_below_drewN | apply below_drew1) | exact HB.out)) hb); clear HB; have HB := n0_; clear n0_; (try clear hb); (try clear hb2); (try clear hk); (try clear hi)))
        go_ret
        exact ⟨by first | rfl | (simp [errW_none, errW_some] <;> rfl) | (simp [*, errW_none, errW_some] <;> rfl), by repeat (first | (with_reducible first | exact HB.out | apply below_alloc | apply pw_below_drewN | apply below_drew1) | exact HB.out)⟩
    · replace c108 := Bool.eq_false_iff.mpr c108
      subst c108
      have H1 : (some false) = some r := by rw [if_neg (show ¬ (false = true) by decide)] at H; exact H
      clear H
      have H := H1
      clear H1
      obtain rfl := Option.some.inj H
      go_wp2_with (first | ((with_reducible refine gate_callee (f := 35) rfl ?_); refine goesL_ (some 426) rfl rfl Tryd.func35 (by kernel_rfl) rfl #[.string t239] rfl (by (try simp only [List.map_toArray, List.map_cons, List.map_nil]); first | done | rfl | (simp only [List.length_drop, List.length_take]; rfl)) ?_; (with_reducible refine (impl_PairsToPass.calls kj93 t239 t257 false _ A106.out).mono ?_); rintro e w120 ⟨rfl, hb⟩; refine ⟨_, rfl, ?_⟩; have n0_ := Aside0.mk (below_step (by repeat (first | (with_reducible first | exact HB.out | apply below_alloc | apply pw_below_drewN | apply below_drew1) | exact HB.out)) hb); clear HB; have HB := n0_; clear n0_; (try clear hb); (try clear hb2); (try clear hk); (try clear hi)) | ((with_reducible refine gate_callee (f := 30) rfl ?_); refine goesL_ (some 431) rfl rfl Tryd.func30 (by kernel_rfl) rfl #[.string t239] rfl (by (try simp only [List.map_toArray, List.map_cons, List.map_nil]); first | done | rfl | (simp only [List.length_drop, List.length_take]; rfl)) ?_; (with_reducible refine (impl_WayToGo.calls kj93 t239 t259 t260 _ A107.out).mono ?_); rintro e w121 ⟨rfl, hb⟩; refine ⟨_, rfl, ?_⟩; have n0_ := Aside0.mk (below_step (by repeat (first | (with_reducible first | exact HB.out | apply below_alloc | apply pw_below_drewN | apply below_drew1) | exact HB.out)) hb); clear HB; have HB := n0_; clear n0_; (try clear hb); (try clear hb2); (try clear hk); (try clear hi)))
      go_ret
      exact ⟨by first | rfl | (simp [errW_none, errW_some] <;> rfl) | (simp [*, errW_none, errW_some] <;> rfl), by repeat (first | (with_reducible first | exact HB.out | apply below_alloc | apply pw_below_drewN | apply below_drew1) | exact HB.out)⟩
  · replace c105 := Bool.eq_false_iff.mpr c105
    subst c105
    have H1 : (laws_FnLinesRankedOfAll.j6 kj93 a5 l6 t247 t248 t251 t252) = some r := by rw [if_neg (show ¬ (false = true) by decide)] at H; exact H
    clear H
    have H := H1
    clear H1
    have H' := Aside0.mk H
    clear H
    go_wp2
    go_meet
    case rel => exact ⟨_, H', ⟨by have := HJ7.out; have := HJ17.out; have := HJ31.out; have := HJ70.out; have := HJ93.out; first | omega | exact Nat.le_refl _⟩, ⟨by repeat (first | (with_reducible first | exact HB.out | apply below_alloc | apply pw_below_drewN | apply below_drew1) | exact HB.out)⟩⟩

end Go.Proofs.YtgiphajcffambaaDoor.XA
