/- The Lean functions that the Go functions of this seat compute, each with the proof that the Go function computes it, for every input (laws: FnLinesRankedOfAll). Conditions: none beyond those that each theorem names. Written by a program of this session over the kit's printer. -/
import Derived.Test.YtgiphajcffambaaDoorXA11
import Derived.Laws.Cover1
import Derived.Test.YtgiphajcffambaaDoorXA0
import Derived.Test.YtgiphajcffambaaDoorXA3
import Derived.Test.YtgiphajcffambaaDoorXA4
import Derived.Test.YtgiphajcffambaaDoorXA5
import Derived.Test.YtgiphajcffambaaDoorXA6
import Derived.Test.YtgiphajcffambaaDoorXA7
import Derived.Test.YtgiphajcffambaaDoorXA8
import Derived.Test.YtgiphajcffambaaDoorXA9
namespace Go.Proofs.YtgiphajcffambaaDoor.XA
open Go.RowKit Go.Proofs.YtgiphajcffambaaDoorW.PrintWords Go.Proofs.YtgiphajcffambaaDoorW.PrintLast Go.Proofs.YtgiphajcffambaaDoorW.PrintMore
attribute [local go_sem] max2_int min2_int max_two min_two max_three min_three max_four min_four   -- for this text's walks alone
attribute [local go_sem] Lib.run_min_strs Go.Proofs.YtgiphajcffambaaDoorXW.run_min2_strs Go.Proofs.YtgiphajcffambaaDoorXW.run_int_string
set_option linter.unusedVariables false
set_option linter.unusedSimpArgs false

set_option maxHeartbeats 8000000 in
set_option maxRecDepth 100000 in
theorem laws_FnLinesRankedOfAll.part2 : laws_FnLinesRankedOfAll.parts.1.2.1 := by
  unfold laws_FnLinesRankedOfAll.parts
  intro k a0 a1 a2 a3 a4 a5 A6 c6 l6 r w hu46 HR6 HC6 in1 in2 in3 u71 u72 u73 u74 u75 u76 u77 u78 u79 u80 u81 u82 u83 u84 u85 u86 u87 u88 u89 kj7 HJ7 t207 t208 A12 t209 t210 A13 t211 t212 t213 t214 A14 t215 t216 t217 t218 A15 t219 t220 A16 t221 t222 A17 w19 in4 w20 in5 w21 in6 nd wc u91 u92 u93 u94 u95 u96 u97 u98 u99 u100 u101 u102 u103 u104 u105 u106 u107 u108 u109 u110 u111 u112 u113 u114 u115 u116 u117 u118 u119 u120 u121 u122 u123 u124 u125 u126 u127 u128 u129 u130 u131 u132 u133 u134 u135 u136 u137 u138 u139 u140 u141 u142 u143 u144 u145 u146 u147 u148 u149 u150 u151 u152 u153 u154 u155 u156 u157 u158 u159 u160 u161 u162 u163 u164 u165 u166 u167 u168 u169 u170 u171 HB kj17 HJ17 HC32 in7 in8 in9 in10 in11 in12
  have H := HC32.out
  clear HC32
  by_cases c33 : t208 = true
  · subst c33
    have H1 : ((impl_CountLines.f kj17 t211 t212 t213).bind fun bt223 => ((impl_LineOfRank.f t211 t212 t213 t207).bind fun bt225 => ((impl_WayToGo.f kj17 t219).bind fun bt227 => ((impl_CountOf.f t219).bind fun bt229 => (if bt223.2 = true then (if t207 < 0 then (laws_FnLinesRankedOfAll.j2 kj17 a0 a1 a2 a3 a4 a5 l6 t207 t211 t212 t213 bt223.1 true) else (if t207 ≥ bt223.1 then (laws_FnLinesRankedOfAll.j2 kj17 a0 a1 a2 a3 a4 a5 l6 t207 t211 t212 t213 bt223.1 true) else (if bt225.2 = true then (if bt225.1.toList = a0.toList then (if (wrap64 ((wrap64 (t211 + t212)) + t213)) = (a0.size : Int) then (if bt227.2 = true then (if bt227.1 = 0 then (if bt229.2.2.2 = true then (if bt229.1 = t211 then (if bt229.2.1 = t212 then (laws_FnLinesRankedOfAll.j2 kj17 a0 a1 a2 a3 a4 a5 l6 t207 t211 t212 t213 bt223.1 (bt229.2.2.1 != t213)) else (laws_FnLinesRankedOfAll.j2 kj17 a0 a1 a2 a3 a4 a5 l6 t207 t211 t212 t213 bt223.1 true)) else (laws_FnLinesRankedOfAll.j2 kj17 a0 a1 a2 a3 a4 a5 l6 t207 t211 t212 t213 bt223.1 true)) else (laws_FnLinesRankedOfAll.j2 kj17 a0 a1 a2 a3 a4 a5 l6 t207 t211 t212 t213 bt223.1 true)) else (laws_FnLinesRankedOfAll.j2 kj17 a0 a1 a2 a3 a4 a5 l6 t207 t211 t212 t213 bt223.1 true)) else (laws_FnLinesRankedOfAll.j2 kj17 a0 a1 a2 a3 a4 a5 l6 t207 t211 t212 t213 bt223.1 true)) else (laws_FnLinesRankedOfAll.j2 kj17 a0 a1 a2 a3 a4 a5 l6 t207 t211 t212 t213 bt223.1 true)) else (laws_FnLinesRankedOfAll.j2 kj17 a0 a1 a2 a3 a4 a5 l6 t207 t211 t212 t213 bt223.1 true)) else (laws_FnLinesRankedOfAll.j2 kj17 a0 a1 a2 a3 a4 a5 l6 t207 t211 t212 t213 bt223.1 true)))) else (laws_FnLinesRankedOfAll.j2 kj17 a0 a1 a2 a3 a4 a5 l6 t207 t211 t212 t213 bt223.1 true)))))) = some r := by rw [if_pos rfl] at H; exact H
    clear H
    have H := H1
    clear H1
    replace H := Option.bind_eq_some_iff.mp H
    obtain ⟨⟨t223, t224⟩, A340, H⟩ := H
    replace H : ((impl_LineOfRank.f t211 t212 t213 t207).bind fun bt225 => ((impl_WayToGo.f kj17 t219).bind fun bt227 => ((impl_CountOf.f t219).bind fun bt229 => (if t224 = true then (if t207 < 0 then (laws_FnLinesRankedOfAll.j2 kj17 a0 a1 a2 a3 a4 a5 l6 t207 t211 t212 t213 t223 true) else (if t207 ≥ t223 then (laws_FnLinesRankedOfAll.j2 kj17 a0 a1 a2 a3 a4 a5 l6 t207 t211 t212 t213 t223 true) else (if bt225.2 = true then (if bt225.1.toList = a0.toList then (if (wrap64 ((wrap64 (t211 + t212)) + t213)) = (a0.size : Int) then (if bt227.2 = true then (if bt227.1 = 0 then (if bt229.2.2.2 = true then (if bt229.1 = t211 then (if bt229.2.1 = t212 then (laws_FnLinesRankedOfAll.j2 kj17 a0 a1 a2 a3 a4 a5 l6 t207 t211 t212 t213 t223 (bt229.2.2.1 != t213)) else (laws_FnLinesRankedOfAll.j2 kj17 a0 a1 a2 a3 a4 a5 l6 t207 t211 t212 t213 t223 true)) else (laws_FnLinesRankedOfAll.j2 kj17 a0 a1 a2 a3 a4 a5 l6 t207 t211 t212 t213 t223 true)) else (laws_FnLinesRankedOfAll.j2 kj17 a0 a1 a2 a3 a4 a5 l6 t207 t211 t212 t213 t223 true)) else (laws_FnLinesRankedOfAll.j2 kj17 a0 a1 a2 a3 a4 a5 l6 t207 t211 t212 t213 t223 true)) else (laws_FnLinesRankedOfAll.j2 kj17 a0 a1 a2 a3 a4 a5 l6 t207 t211 t212 t213 t223 true)) else (laws_FnLinesRankedOfAll.j2 kj17 a0 a1 a2 a3 a4 a5 l6 t207 t211 t212 t213 t223 true)) else (laws_FnLinesRankedOfAll.j2 kj17 a0 a1 a2 a3 a4 a5 l6 t207 t211 t212 t213 t223 true)) else (laws_FnLinesRankedOfAll.j2 kj17 a0 a1 a2 a3 a4 a5 l6 t207 t211 t212 t213 t223 true)))) else (laws_FnLinesRankedOfAll.j2 kj17 a0 a1 a2 a3 a4 a5 l6 t207 t211 t212 t213 t223 true))))) = some r := H
    have A34 := Aside0.mk A340
    clear A340
    replace H := Option.bind_eq_some_iff.mp H
    obtain ⟨⟨t225, t226⟩, A350, H⟩ := H
    replace H : ((impl_WayToGo.f kj17 t219).bind fun bt227 => ((impl_CountOf.f t219).bind fun bt229 => (if t224 = true then (if t207 < 0 then (laws_FnLinesRankedOfAll.j2 kj17 a0 a1 a2 a3 a4 a5 l6 t207 t211 t212 t213 t223 true) else (if t207 ≥ t223 then (laws_FnLinesRankedOfAll.j2 kj17 a0 a1 a2 a3 a4 a5 l6 t207 t211 t212 t213 t223 true) else (if t226 = true then (if t225.toList = a0.toList then (if (wrap64 ((wrap64 (t211 + t212)) + t213)) = (a0.size : Int) then (if bt227.2 = true then (if bt227.1 = 0 then (if bt229.2.2.2 = true then (if bt229.1 = t211 then (if bt229.2.1 = t212 then (laws_FnLinesRankedOfAll.j2 kj17 a0 a1 a2 a3 a4 a5 l6 t207 t211 t212 t213 t223 (bt229.2.2.1 != t213)) else (laws_FnLinesRankedOfAll.j2 kj17 a0 a1 a2 a3 a4 a5 l6 t207 t211 t212 t213 t223 true)) else (laws_FnLinesRankedOfAll.j2 kj17 a0 a1 a2 a3 a4 a5 l6 t207 t211 t212 t213 t223 true)) else (laws_FnLinesRankedOfAll.j2 kj17 a0 a1 a2 a3 a4 a5 l6 t207 t211 t212 t213 t223 true)) else (laws_FnLinesRankedOfAll.j2 kj17 a0 a1 a2 a3 a4 a5 l6 t207 t211 t212 t213 t223 true)) else (laws_FnLinesRankedOfAll.j2 kj17 a0 a1 a2 a3 a4 a5 l6 t207 t211 t212 t213 t223 true)) else (laws_FnLinesRankedOfAll.j2 kj17 a0 a1 a2 a3 a4 a5 l6 t207 t211 t212 t213 t223 true)) else (laws_FnLinesRankedOfAll.j2 kj17 a0 a1 a2 a3 a4 a5 l6 t207 t211 t212 t213 t223 true)) else (laws_FnLinesRankedOfAll.j2 kj17 a0 a1 a2 a3 a4 a5 l6 t207 t211 t212 t213 t223 true)))) else (laws_FnLinesRankedOfAll.j2 kj17 a0 a1 a2 a3 a4 a5 l6 t207 t211 t212 t213 t223 true)))) = some r := H
    have A35 := Aside0.mk A350
    clear A350
    replace H := Option.bind_eq_some_iff.mp H
    obtain ⟨⟨t227, t228⟩, A360, H⟩ := H
    replace H : ((impl_CountOf.f t219).bind fun bt229 => (if t224 = true then (if t207 < 0 then (laws_FnLinesRankedOfAll.j2 kj17 a0 a1 a2 a3 a4 a5 l6 t207 t211 t212 t213 t223 true) else (if t207 ≥ t223 then (laws_FnLinesRankedOfAll.j2 kj17 a0 a1 a2 a3 a4 a5 l6 t207 t211 t212 t213 t223 true) else (if t226 = true then (if t225.toList = a0.toList then (if (wrap64 ((wrap64 (t211 + t212)) + t213)) = (a0.size : Int) then (if t228 = true then (if t227 = 0 then (if bt229.2.2.2 = true then (if bt229.1 = t211 then (if bt229.2.1 = t212 then (laws_FnLinesRankedOfAll.j2 kj17 a0 a1 a2 a3 a4 a5 l6 t207 t211 t212 t213 t223 (bt229.2.2.1 != t213)) else (laws_FnLinesRankedOfAll.j2 kj17 a0 a1 a2 a3 a4 a5 l6 t207 t211 t212 t213 t223 true)) else (laws_FnLinesRankedOfAll.j2 kj17 a0 a1 a2 a3 a4 a5 l6 t207 t211 t212 t213 t223 true)) else (laws_FnLinesRankedOfAll.j2 kj17 a0 a1 a2 a3 a4 a5 l6 t207 t211 t212 t213 t223 true)) else (laws_FnLinesRankedOfAll.j2 kj17 a0 a1 a2 a3 a4 a5 l6 t207 t211 t212 t213 t223 true)) else (laws_FnLinesRankedOfAll.j2 kj17 a0 a1 a2 a3 a4 a5 l6 t207 t211 t212 t213 t223 true)) else (laws_FnLinesRankedOfAll.j2 kj17 a0 a1 a2 a3 a4 a5 l6 t207 t211 t212 t213 t223 true)) else (laws_FnLinesRankedOfAll.j2 kj17 a0 a1 a2 a3 a4 a5 l6 t207 t211 t212 t213 t223 true)) else (laws_FnLinesRankedOfAll.j2 kj17 a0 a1 a2 a3 a4 a5 l6 t207 t211 t212 t213 t223 true)))) else (laws_FnLinesRankedOfAll.j2 kj17 a0 a1 a2 a3 a4 a5 l6 t207 t211 t212 t213 t223 true))) = some r := H
    have A36 := Aside0.mk A360
    clear A360
    replace H := Option.bind_eq_some_iff.mp H
    obtain ⟨⟨t229, t230, t231, t232⟩, A370, H⟩ := H
    replace H : (if t224 = true then (if t207 < 0 then (laws_FnLinesRankedOfAll.j2 kj17 a0 a1 a2 a3 a4 a5 l6 t207 t211 t212 t213 t223 true) else (if t207 ≥ t223 then (laws_FnLinesRankedOfAll.j2 kj17 a0 a1 a2 a3 a4 a5 l6 t207 t211 t212 t213 t223 true) else (if t226 = true then (if t225.toList = a0.toList then (if (wrap64 ((wrap64 (t211 + t212)) + t213)) = (a0.size : Int) then (if t228 = true then (if t227 = 0 then (if t232 = true then (if t229 = t211 then (if t230 = t212 then (laws_FnLinesRankedOfAll.j2 kj17 a0 a1 a2 a3 a4 a5 l6 t207 t211 t212 t213 t223 (t231 != t213)) else (laws_FnLinesRankedOfAll.j2 kj17 a0 a1 a2 a3 a4 a5 l6 t207 t211 t212 t213 t223 true)) else (laws_FnLinesRankedOfAll.j2 kj17 a0 a1 a2 a3 a4 a5 l6 t207 t211 t212 t213 t223 true)) else (laws_FnLinesRankedOfAll.j2 kj17 a0 a1 a2 a3 a4 a5 l6 t207 t211 t212 t213 t223 true)) else (laws_FnLinesRankedOfAll.j2 kj17 a0 a1 a2 a3 a4 a5 l6 t207 t211 t212 t213 t223 true)) else (laws_FnLinesRankedOfAll.j2 kj17 a0 a1 a2 a3 a4 a5 l6 t207 t211 t212 t213 t223 true)) else (laws_FnLinesRankedOfAll.j2 kj17 a0 a1 a2 a3 a4 a5 l6 t207 t211 t212 t213 t223 true)) else (laws_FnLinesRankedOfAll.j2 kj17 a0 a1 a2 a3 a4 a5 l6 t207 t211 t212 t213 t223 true)) else (laws_FnLinesRankedOfAll.j2 kj17 a0 a1 a2 a3 a4 a5 l6 t207 t211 t212 t213 t223 true)))) else (laws_FnLinesRankedOfAll.j2 kj17 a0 a1 a2 a3 a4 a5 l6 t207 t211 t212 t213 t223 true)) = some r := H
    have A37 := Aside0.mk A370
    clear A370
    have HC38 := Aside0.mk H
    clear H
    go_upto_region 16 with (first | ((with_reducible refine gate_callee (f := 28) rfl ?_); refine goesL_ (some 178) rfl rfl Tryd.func28 (by kernel_rfl) rfl #[.int .i64 t211, .int .i64 t212, .int .i64 t213] rfl (by (try simp only [List.map_toArray, List.map_cons, List.map_nil]); first | done | rfl | (simp only [List.length_drop, List.length_take]; rfl)) ?_; (with_reducible refine (impl_CountLines.calls kj17 t211 t212 t213 t223 t224 _ A34.out).mono ?_); rintro e w' ⟨rfl, ⟨nd, rfl⟩⟩; refine ⟨_, rfl, ?_⟩) | ((with_reducible refine gate_callee (f := 29) rfl ?_); refine goesL_ (some 186) rfl rfl Tryd.func29 (by kernel_rfl) rfl #[.int .i64 t211, .int .i64 t212, .int .i64 t213, .int .i64 t207] rfl (by (try simp only [List.map_toArray, List.map_cons, List.map_nil]); first | done | rfl | (simp only [List.length_drop, List.length_take]; rfl)) ?_; (with_reducible refine (impl_LineOfRank.calls t211 t212 t213 t207 t225 t226 _ A35.out).mono ?_); rintro e w39 ⟨rfl, hb⟩; refine ⟨_, rfl, ?_⟩; have n0_ := Aside0.mk (below_step (by repeat (first | (with_reducible first | exact HB.out | apply below_alloc | apply pw_below_drewN | apply below_drew1) | exact HB.out)) hb); clear HB; have HB := n0_; clear n0_; (try clear hb); (try clear hb2); (try clear hk); (try clear hi)) | ((with_reducible refine gate_callee (f := 30) rfl ?_); refine goesL_ (some 191) rfl rfl Tryd.func30 (by kernel_rfl) rfl #[.string t219] rfl (by (try simp only [List.map_toArray, List.map_cons, List.map_nil]); first | done | rfl | (simp only [List.length_drop, List.length_take]; rfl)) ?_; (with_reducible refine (impl_WayToGo.calls kj17 t219 t227 t228 _ A36.out).mono ?_); rintro e w40 ⟨rfl, hb⟩; refine ⟨_, rfl, ?_⟩; have n0_ := Aside0.mk (below_step (by repeat (first | (with_reducible first | exact HB.out | apply below_alloc | apply pw_below_drewN | apply below_drew1) | exact HB.out)) hb); clear HB; have HB := n0_; clear n0_; (try clear hb); (try clear hb2); (try clear hk); (try clear hi)) | ((with_reducible refine gate_callee (f := 24) rfl ?_); refine goesL_ (some 196) rfl rfl Tryd.func24 (by kernel_rfl) rfl #[.string t219] rfl (by (try simp only [List.map_toArray, List.map_cons, List.map_nil]); first | done | rfl | (simp only [List.length_drop, List.length_take]; rfl)) ?_; (with_reducible refine (impl_CountOf.calls t219 t229 t230 t231 t232 _ A37.out).mono ?_); rintro e w41 ⟨rfl, hb⟩; refine ⟨_, rfl, ?_⟩; have n0_ := Aside0.mk (below_step (by repeat (first | (with_reducible first | exact HB.out | apply below_alloc | apply pw_below_drewN | apply below_drew1) | exact HB.out)) hb); clear HB; have HB := n0_; clear n0_; (try clear hb); (try clear hb2); (try clear hk); (try clear hi)))
    (try simp only [Act.put, List.setIfInBounds_toArray, List.set_cons_zero, List.set_cons_succ])
    go_cut [257] from 173 to 257 (fun v257 wc => ∃ (kq : Nat) (x257_37 : Bool), v257 = .bool x257_37 ∧ Aside0 (laws_FnLinesRankedOfAll.j2 kq a0 a1 a2 a3 a4 a5 l6 t207 t211 t212 t213 t223 x257_37 = some r) ∧ Aside0 (kq ≤ kj17) ∧ Aside0 (Below w.heap.size w wc))
    case first =>
      have H := HC38.out
      clear HC38
      by_cases c42 : t224 = true
      · subst c42
        have H1 : (if t207 < 0 then (laws_FnLinesRankedOfAll.j2 kj17 a0 a1 a2 a3 a4 a5 l6 t207 t211 t212 t213 t223 true) else (if t207 ≥ t223 then (laws_FnLinesRankedOfAll.j2 kj17 a0 a1 a2 a3 a4 a5 l6 t207 t211 t212 t213 t223 true) else (if t226 = true then (if t225.toList = a0.toList then (if (wrap64 ((wrap64 (t211 + t212)) + t213)) = (a0.size : Int) then (if t228 = true then (if t227 = 0 then (if t232 = true then (if t229 = t211 then (if t230 = t212 then (laws_FnLinesRankedOfAll.j2 kj17 a0 a1 a2 a3 a4 a5 l6 t207 t211 t212 t213 t223 (t231 != t213)) else (laws_FnLinesRankedOfAll.j2 kj17 a0 a1 a2 a3 a4 a5 l6 t207 t211 t212 t213 t223 true)) else (laws_FnLinesRankedOfAll.j2 kj17 a0 a1 a2 a3 a4 a5 l6 t207 t211 t212 t213 t223 true)) else (laws_FnLinesRankedOfAll.j2 kj17 a0 a1 a2 a3 a4 a5 l6 t207 t211 t212 t213 t223 true)) else (laws_FnLinesRankedOfAll.j2 kj17 a0 a1 a2 a3 a4 a5 l6 t207 t211 t212 t213 t223 true)) else (laws_FnLinesRankedOfAll.j2 kj17 a0 a1 a2 a3 a4 a5 l6 t207 t211 t212 t213 t223 true)) else (laws_FnLinesRankedOfAll.j2 kj17 a0 a1 a2 a3 a4 a5 l6 t207 t211 t212 t213 t223 true)) else (laws_FnLinesRankedOfAll.j2 kj17 a0 a1 a2 a3 a4 a5 l6 t207 t211 t212 t213 t223 true)) else (laws_FnLinesRankedOfAll.j2 kj17 a0 a1 a2 a3 a4 a5 l6 t207 t211 t212 t213 t223 true)))) = some r := by rw [if_pos rfl] at H; exact H
        clear H
        have H := H1
        clear H1
        by_cases c43 : t207 < 0
        · rw [if_pos c43] at H
          have c43b0 : decide (t207 < 0) = true := decide_eq_true c43
          clear c43
          (first | rw [c43b0] | (simp only [i64_w, i32_w]; rw [c43b0]) | skip)
          have H' := Aside0.mk H
          clear H
          go_wp2
          go_meet
          case rel => exact ⟨_, (true), (by first | rfl | (simp; done) | (simp [*]; done)), H', ⟨by have := HJ7.out; have := HJ17.out; first | omega | exact Nat.le_refl _⟩, ⟨by repeat (first | (with_reducible first | exact HB.out | apply below_alloc | apply pw_below_drewN | apply below_drew1) | exact HB.out)⟩⟩
        · rw [if_neg c43] at H
          have c43b0 : decide (t207 < 0) = false := decide_eq_false c43
          clear c43
          (first | rw [c43b0] | (simp only [i64_w, i32_w]; rw [c43b0]) | skip)
          by_cases c44 : t207 ≥ t223
          · rw [if_pos c44] at H
            have c44b0 : decide (t223 ≤ t207) = true := decide_eq_true c44
            clear c44
            have H' := Aside0.mk H
            clear H
            go_wp2
            go_meet
            case rel => exact ⟨_, (true), (by first | rfl | (simp; done) | (simp [*]; done)), H', ⟨by have := HJ7.out; have := HJ17.out; first | omega | exact Nat.le_refl _⟩, ⟨by repeat (first | (with_reducible first | exact HB.out | apply below_alloc | apply pw_below_drewN | apply below_drew1) | exact HB.out)⟩⟩
          · rw [if_neg c44] at H
            have c44b0 : decide (t223 ≤ t207) = false := decide_eq_false c44
            clear c44
            by_cases c45 : t226 = true
            · subst c45
              have H1 : (if t225.toList = a0.toList then (if (wrap64 ((wrap64 (t211 + t212)) + t213)) = (a0.size : Int) then (if t228 = true then (if t227 = 0 then (if t232 = true then (if t229 = t211 then (if t230 = t212 then (laws_FnLinesRankedOfAll.j2 kj17 a0 a1 a2 a3 a4 a5 l6 t207 t211 t212 t213 t223 (t231 != t213)) else (laws_FnLinesRankedOfAll.j2 kj17 a0 a1 a2 a3 a4 a5 l6 t207 t211 t212 t213 t223 true)) else (laws_FnLinesRankedOfAll.j2 kj17 a0 a1 a2 a3 a4 a5 l6 t207 t211 t212 t213 t223 true)) else (laws_FnLinesRankedOfAll.j2 kj17 a0 a1 a2 a3 a4 a5 l6 t207 t211 t212 t213 t223 true)) else (laws_FnLinesRankedOfAll.j2 kj17 a0 a1 a2 a3 a4 a5 l6 t207 t211 t212 t213 t223 true)) else (laws_FnLinesRankedOfAll.j2 kj17 a0 a1 a2 a3 a4 a5 l6 t207 t211 t212 t213 t223 true)) else (laws_FnLinesRankedOfAll.j2 kj17 a0 a1 a2 a3 a4 a5 l6 t207 t211 t212 t213 t223 true)) else (laws_FnLinesRankedOfAll.j2 kj17 a0 a1 a2 a3 a4 a5 l6 t207 t211 t212 t213 t223 true)) = some r := by rw [if_pos rfl] at H; exact H
              clear H
              have H := H1
              clear H1
              by_cases c46 : t225.toList = a0.toList
              · rw [if_pos c46] at H
                have c46b0 : (t225.toList == a0.toList) = true := beq_iff_eq.mpr c46
                have c46b1 : (t225.toList != a0.toList) = false := bne_eq_false_iff_eq.mpr c46
                clear c46
                by_cases c47 : (wrap64 ((wrap64 (t211 + t212)) + t213)) = (a0.size : Int)
                · rw [if_pos c47] at H
                  have c47b0 : ((wrap64 ((wrap64 (t211 + t212)) + t213)) == (a0.size : Int)) = true := beq_iff_eq.mpr c47
                  have c47b1 : ((wrap64 ((wrap64 (t211 + t212)) + t213)) != (a0.size : Int)) = false := bne_eq_false_iff_eq.mpr c47
                  clear c47
                  by_cases c48 : t228 = true
                  · subst c48
                    have H1 : (if t227 = 0 then (if t232 = true then (if t229 = t211 then (if t230 = t212 then (laws_FnLinesRankedOfAll.j2 kj17 a0 a1 a2 a3 a4 a5 l6 t207 t211 t212 t213 t223 (t231 != t213)) else (laws_FnLinesRankedOfAll.j2 kj17 a0 a1 a2 a3 a4 a5 l6 t207 t211 t212 t213 t223 true)) else (laws_FnLinesRankedOfAll.j2 kj17 a0 a1 a2 a3 a4 a5 l6 t207 t211 t212 t213 t223 true)) else (laws_FnLinesRankedOfAll.j2 kj17 a0 a1 a2 a3 a4 a5 l6 t207 t211 t212 t213 t223 true)) else (laws_FnLinesRankedOfAll.j2 kj17 a0 a1 a2 a3 a4 a5 l6 t207 t211 t212 t213 t223 true)) = some r := by rw [if_pos rfl] at H; exact H
                    clear H
                    have H := H1
                    clear H1
                    by_cases c49 : t227 = 0
                    · rw [if_pos c49] at H
                      have c49b0 : (t227 == 0) = true := beq_iff_eq.mpr c49
                      have c49b1 : (t227 != 0) = false := bne_eq_false_iff_eq.mpr c49
                      clear c49
                      by_cases c50 : t232 = true
                      · subst c50
                        have H1 : (if t229 = t211 then (if t230 = t212 then (laws_FnLinesRankedOfAll.j2 kj17 a0 a1 a2 a3 a4 a5 l6 t207 t211 t212 t213 t223 (t231 != t213)) else (laws_FnLinesRankedOfAll.j2 kj17 a0 a1 a2 a3 a4 a5 l6 t207 t211 t212 t213 t223 true)) else (laws_FnLinesRankedOfAll.j2 kj17 a0 a1 a2 a3 a4 a5 l6 t207 t211 t212 t213 t223 true)) = some r := by rw [if_pos rfl] at H; exact H
                        clear H
                        have H := H1
                        clear H1
                        by_cases c51 : t229 = t211
                        · rw [if_pos c51] at H
                          have c51b0 : (t229 == t211) = true := beq_iff_eq.mpr c51
                          have c51b1 : (t229 != t211) = false := bne_eq_false_iff_eq.mpr c51
                          clear c51
                          by_cases c52 : t230 = t212
                          · rw [if_pos c52] at H
                            have c52b0 : (t230 == t212) = true := beq_iff_eq.mpr c52
                            have c52b1 : (t230 != t212) = false := bne_eq_false_iff_eq.mpr c52
                            clear c52
                            have H' := Aside0.mk H
                            clear H
                            go_wp2
                            go_meet
                            case rel => exact ⟨_, ((t231 != t213)), (by first | rfl | (simp; done) | (simp [*]; done)), H', ⟨by have := HJ7.out; have := HJ17.out; first | omega | exact Nat.le_refl _⟩, ⟨by repeat (first | (with_reducible first | exact HB.out | apply below_alloc | apply pw_below_drewN | apply below_drew1) | exact HB.out)⟩⟩
                          · rw [if_neg c52] at H
                            have c52b0 : (t230 == t212) = false := beq_eq_false_iff_ne.mpr c52
                            have c52b1 : (t230 != t212) = true := bne_iff_ne.mpr c52
                            have H' := Aside0.mk H
                            clear H
                            go_wp2
                            go_meet
                            case rel => exact ⟨_, (true), (by first | rfl | (simp; done) | (simp [*]; done)), H', ⟨by have := HJ7.out; have := HJ17.out; first | omega | exact Nat.le_refl _⟩, ⟨by repeat (first | (with_reducible first | exact HB.out | apply below_alloc | apply pw_below_drewN | apply below_drew1) | exact HB.out)⟩⟩
                        · rw [if_neg c51] at H
                          have c51b0 : (t229 == t211) = false := beq_eq_false_iff_ne.mpr c51
                          have c51b1 : (t229 != t211) = true := bne_iff_ne.mpr c51
                          have H' := Aside0.mk H
                          clear H
                          go_wp2
                          go_meet
                          case rel => exact ⟨_, (true), (by first | rfl | (simp; done) | (simp [*]; done)), H', ⟨by have := HJ7.out; have := HJ17.out; first | omega | exact Nat.le_refl _⟩, ⟨by repeat (first | (with_reducible first | exact HB.out | apply below_alloc | apply pw_below_drewN | apply below_drew1) | exact HB.out)⟩⟩
                      · replace c50 := Bool.eq_false_iff.mpr c50
                        subst c50
                        have H1 : (laws_FnLinesRankedOfAll.j2 kj17 a0 a1 a2 a3 a4 a5 l6 t207 t211 t212 t213 t223 true) = some r := by rw [if_neg (show ¬ (false = true) by decide)] at H; exact H
                        clear H
                        have H := H1
                        clear H1
                        have H' := Aside0.mk H
                        clear H
                        go_wp2
                        go_meet
                        case rel => exact ⟨_, (true), (by first | rfl | (simp; done) | (simp [*]; done)), H', ⟨by have := HJ7.out; have := HJ17.out; first | omega | exact Nat.le_refl _⟩, ⟨by repeat (first | (with_reducible first | exact HB.out | apply below_alloc | apply pw_below_drewN | apply below_drew1) | exact HB.out)⟩⟩
                    · rw [if_neg c49] at H
                      have c49b0 : (t227 == 0) = false := beq_eq_false_iff_ne.mpr c49
                      have c49b1 : (t227 != 0) = true := bne_iff_ne.mpr c49
                      have H' := Aside0.mk H
                      clear H
                      go_wp2
                      go_meet
                      case rel => exact ⟨_, (true), (by first | rfl | (simp; done) | (simp [*]; done)), H', ⟨by have := HJ7.out; have := HJ17.out; first | omega | exact Nat.le_refl _⟩, ⟨by repeat (first | (with_reducible first | exact HB.out | apply below_alloc | apply pw_below_drewN | apply below_drew1) | exact HB.out)⟩⟩
                  · replace c48 := Bool.eq_false_iff.mpr c48
                    subst c48
                    have H1 : (laws_FnLinesRankedOfAll.j2 kj17 a0 a1 a2 a3 a4 a5 l6 t207 t211 t212 t213 t223 true) = some r := by rw [if_neg (show ¬ (false = true) by decide)] at H; exact H
                    clear H
                    have H := H1
                    clear H1
                    have H' := Aside0.mk H
                    clear H
                    go_wp2
                    go_meet
                    case rel => exact ⟨_, (true), (by first | rfl | (simp; done) | (simp [*]; done)), H', ⟨by have := HJ7.out; have := HJ17.out; first | omega | exact Nat.le_refl _⟩, ⟨by repeat (first | (with_reducible first | exact HB.out | apply below_alloc | apply pw_below_drewN | apply below_drew1) | exact HB.out)⟩⟩
                · rw [if_neg c47] at H
                  have c47b0 : ((wrap64 ((wrap64 (t211 + t212)) + t213)) == (a0.size : Int)) = false := beq_eq_false_iff_ne.mpr c47
                  have c47b1 : ((wrap64 ((wrap64 (t211 + t212)) + t213)) != (a0.size : Int)) = true := bne_iff_ne.mpr c47
                  have H' := Aside0.mk H
                  clear H
                  go_wp2
                  go_meet
                  case rel => exact ⟨_, (true), (by first | rfl | (simp; done) | (simp [*]; done)), H', ⟨by have := HJ7.out; have := HJ17.out; first | omega | exact Nat.le_refl _⟩, ⟨by repeat (first | (with_reducible first | exact HB.out | apply below_alloc | apply pw_below_drewN | apply below_drew1) | exact HB.out)⟩⟩
              · rw [if_neg c46] at H
                have c46b0 : (t225.toList == a0.toList) = false := beq_eq_false_iff_ne.mpr c46
                have c46b1 : (t225.toList != a0.toList) = true := bne_iff_ne.mpr c46
                have H' := Aside0.mk H
                clear H
                go_wp2
                go_meet
                case rel => exact ⟨_, (true), (by first | rfl | (simp; done) | (simp [*]; done)), H', ⟨by have := HJ7.out; have := HJ17.out; first | omega | exact Nat.le_refl _⟩, ⟨by repeat (first | (with_reducible first | exact HB.out | apply below_alloc | apply pw_below_drewN | apply below_drew1) | exact HB.out)⟩⟩
            · replace c45 := Bool.eq_false_iff.mpr c45
              subst c45
              have H1 : (laws_FnLinesRankedOfAll.j2 kj17 a0 a1 a2 a3 a4 a5 l6 t207 t211 t212 t213 t223 true) = some r := by rw [if_neg (show ¬ (false = true) by decide)] at H; exact H
              clear H
              have H := H1
              clear H1
              have H' := Aside0.mk H
              clear H
              go_wp2
              go_meet
              case rel => exact ⟨_, (true), (by first | rfl | (simp; done) | (simp [*]; done)), H', ⟨by have := HJ7.out; have := HJ17.out; first | omega | exact Nat.le_refl _⟩, ⟨by repeat (first | (with_reducible first | exact HB.out | apply below_alloc | apply pw_below_drewN | apply below_drew1) | exact HB.out)⟩⟩
      · replace c42 := Bool.eq_false_iff.mpr c42
        subst c42
        have H1 : (laws_FnLinesRankedOfAll.j2 kj17 a0 a1 a2 a3 a4 a5 l6 t207 t211 t212 t213 t223 true) = some r := by rw [if_neg (show ¬ (false = true) by decide)] at H; exact H
        clear H
        have H := H1
        clear H1
        have H' := Aside0.mk H
        clear H
        go_wp2
        go_meet
        case rel => exact ⟨_, (true), (by first | rfl | (simp; done) | (simp [*]; done)), H', ⟨by have := HJ7.out; have := HJ17.out; first | omega | exact Nat.le_refl _⟩, ⟨by repeat (first | (with_reducible first | exact HB.out | apply below_alloc | apply pw_below_drewN | apply below_drew1) | exact HB.out)⟩⟩
    case rest =>
      clear HC38
      try clear c1
      try clear c2
      try clear p2
      try clear c3
      try clear c4
      try clear c5
      try clear c6
      try clear p6
      try clear c7
      try clear c9
      try clear c9b0
      try clear c9b1
      try clear c10
      try clear c10b0
      try clear c10b1
      try clear c11
      try clear c22
      try clear c22b0
      try clear c22b1
      try clear c22b2
      try clear c23
      try clear c23b0
      try clear c23b1
      try clear c24
      try clear c24b0
      try clear c24b1
      try clear c24b2
      try clear c25
      try clear c25b0
      try clear c25b1
      try clear c26
      try clear c26b0
      try clear c26b1
      try clear c27
      try clear c27b0
      try clear c27b1
      try clear c28
      try clear c28b0
      try clear c28b1
      try clear c28b2
      try clear c29
      try clear c29b0
      try clear c29b1
      try clear c30
      try clear c30b0
      try clear c30b1
      try clear c30b2
      try clear c31
      try clear c33
      try clear c42
      try clear c43
      try clear c43b0
      try clear c44
      try clear c44b0
      try clear c45
      try clear c46
      try clear c46b0
      try clear c46b1
      try clear c47
      try clear c47b0
      try clear c47b1
      try clear c48
      try clear c49
      try clear c49b0
      try clear c49b1
      try clear c50
      try clear c51
      try clear c51b0
      try clear c51b1
      try clear c52
      try clear c52b0
      try clear c52b1
      try clear p2
      obtain ⟨kq, x257_37, rfl, HA, HJ37, HB⟩ := hcut
      cases kq with
      | zero => exact absurd HA.out (by simp [laws_FnLinesRankedOfAll.j2])
      | succ kj37 =>
        have H := HA.out
        clear HA
        simp only [laws_FnLinesRankedOfAll.j2] at H
        by_cases c53 : x257_37 = true
        · subst c53
          have H1 : (some false) = some r := by rw [if_pos rfl] at H; exact H
          clear H
          have H := H1
          clear H1
          obtain rfl := Option.some.inj H
          go_wp2
          go_ret
          exact ⟨by first | rfl | (simp [errW_none, errW_some] <;> rfl) | (simp [*, errW_none, errW_some] <;> rfl), by repeat (first | (with_reducible first | exact HB.out | apply below_alloc | apply pw_below_drewN | apply below_drew1) | exact HB.out)⟩
        · replace c53 := Bool.eq_false_iff.mpr c53
          subst c53
          have H1 : (if (wrap64 (t207 + 1)) < t223 then ((impl_LineOfRank.f t211 t212 t213 (wrap64 (t207 + 1))).bind fun bt233 => (if bt233.2 = true then (if ((Op.bytesLess a0.toList bt233.1.toList) = true) then (laws_FnLinesRankedOfAll.j3 kj37 a1 a2 a3 a4 a5 l6) else (some false)) else (some false))) else (laws_FnLinesRankedOfAll.j3 kj37 a1 a2 a3 a4 a5 l6)) = some r := by rw [if_neg (show ¬ (false = true) by decide)] at H; exact H
          clear H
          have H := H1
          clear H1
          by_cases c54 : (wrap64 (t207 + 1)) < t223
          · rw [if_pos c54] at H
            have c54b0 : decide ((wrap64 (t207 + 1)) < t223) = true := decide_eq_true c54
            clear c54
            replace H := Option.bind_eq_some_iff.mp H
            obtain ⟨⟨t233, t234⟩, A550, H⟩ := H
            replace H : (if t234 = true then (if ((Op.bytesLess a0.toList t233.toList) = true) then (laws_FnLinesRankedOfAll.j3 kj37 a1 a2 a3 a4 a5 l6) else (some false)) else (some false)) = some r := H
            have A55 := Aside0.mk A550
            clear A550
            by_cases c56 : t234 = true
            · subst c56
              have H1 : (if ((Op.bytesLess a0.toList t233.toList) = true) then (laws_FnLinesRankedOfAll.j3 kj37 a1 a2 a3 a4 a5 l6) else (some false)) = some r := by rw [if_pos rfl] at H; exact H
              clear H
              have H := H1
              clear H1
              by_cases c57 : ((Op.bytesLess a0.toList t233.toList) = true)
              · rw [if_pos c57] at H
                have c57b0 : (Op.bytesLess a0.toList t233.toList) = true := c57
                have c57b9 : (Op.bytesLess t233.toList a0.toList || t233.toList == a0.toList) = false := by have h := Go.Proofs.YtgiphajcffambaaDoorB.less_not _ _ c57b0; rw [h.1, Bool.false_or]; exact beq_eq_false_iff_ne.2 (fun e => h.2 e.symm)
                clear c57
                have H' := Aside0.mk H
                clear H
                go_wp2_with (first | ((with_reducible refine gate_callee (f := 29) rfl ?_); refine goesL_ (some 268) rfl rfl Tryd.func29 (by kernel_rfl) rfl #[.int .i64 t211, .int .i64 t212, .int .i64 t213, .int .i64 (wrap64 (t207 + 1))] rfl (by (try simp only [List.map_toArray, List.map_cons, List.map_nil]); first | done | rfl | (simp only [List.length_drop, List.length_take]; rfl)) ?_; (with_reducible refine (impl_LineOfRank.calls t211 t212 t213 (wrap64 (t207 + 1)) t233 true _ A55.out).mono ?_); rintro e w58 ⟨rfl, hb⟩; refine ⟨_, rfl, ?_⟩; have n0_ := Aside0.mk (below_step (by repeat (first | (with_reducible first | exact HB.out | apply below_alloc | apply pw_below_drewN | apply below_drew1) | exact HB.out)) hb); clear HB; have HB := n0_; clear n0_; (try clear hb); (try clear hb2); (try clear hk); (try clear hi)))
                go_meet
                case rel => exact ⟨_, H', ⟨by have := HJ7.out; have := HJ17.out; have := HJ37.out; first | omega | exact Nat.le_refl _⟩, ⟨by repeat (first | (with_reducible first | exact HB.out | apply below_alloc | apply pw_below_drewN | apply below_drew1) | exact HB.out)⟩⟩
              · rw [if_neg c57] at H
                have c57b0 : (Op.bytesLess a0.toList t233.toList) = false := by simpa using c57
                have c57b9 : (Op.bytesLess t233.toList a0.toList || t233.toList == a0.toList) = true := by rcases Go.Proofs.YtgiphajcffambaaDoorB.less_total _ _ c57b0 with h | h; (rw [h]; rfl); (rw [h]; simp)
                clear c57
                obtain rfl := Option.some.inj H
                go_wp2_with (first | ((with_reducible refine gate_callee (f := 29) rfl ?_); refine goesL_ (some 268) rfl rfl Tryd.func29 (by kernel_rfl) rfl #[.int .i64 t211, .int .i64 t212, .int .i64 t213, .int .i64 (wrap64 (t207 + 1))] rfl (by (try simp only [List.map_toArray, List.map_cons, List.map_nil]); first | done | rfl | (simp only [List.length_drop, List.length_take]; rfl)) ?_; (with_reducible refine (impl_LineOfRank.calls t211 t212 t213 (wrap64 (t207 + 1)) t233 true _ A55.out).mono ?_); rintro e w59 ⟨rfl, hb⟩; refine ⟨_, rfl, ?_⟩; have n0_ := Aside0.mk (below_step (by repeat (first | (with_reducible first | exact HB.out | apply below_alloc | apply pw_below_drewN | apply below_drew1) | exact HB.out)) hb); clear HB; have HB := n0_; clear n0_; (try clear hb); (try clear hb2); (try clear hk); (try clear hi)))
                go_ret
                exact ⟨by first | rfl | (simp [errW_none, errW_some] <;> rfl) | (simp [*, errW_none, errW_some] <;> rfl), by repeat (first | (with_reducible first | exact HB.out | apply below_alloc | apply pw_below_drewN | apply below_drew1) | exact HB.out)⟩
            · replace c56 := Bool.eq_false_iff.mpr c56
              subst c56
              have H1 : (some false) = some r := by rw [if_neg (show ¬ (false = true) by decide)] at H; exact H
              clear H
              have H := H1
              clear H1
              obtain rfl := Option.some.inj H
              go_wp2_with (first | ((with_reducible refine gate_callee (f := 29) rfl ?_); refine goesL_ (some 268) rfl rfl Tryd.func29 (by kernel_rfl) rfl #[.int .i64 t211, .int .i64 t212, .int .i64 t213, .int .i64 (wrap64 (t207 + 1))] rfl (by (try simp only [List.map_toArray, List.map_cons, List.map_nil]); first | done | rfl | (simp only [List.length_drop, List.length_take]; rfl)) ?_; (with_reducible refine (impl_LineOfRank.calls t211 t212 t213 (wrap64 (t207 + 1)) t233 false _ A55.out).mono ?_); rintro e w60 ⟨rfl, hb⟩; refine ⟨_, rfl, ?_⟩; have n0_ := Aside0.mk (below_step (by repeat (first | (with_reducible first | exact HB.out | apply below_alloc | apply pw_below_drewN | apply below_drew1) | exact HB.out)) hb); clear HB; have HB := n0_; clear n0_; (try clear hb); (try clear hb2); (try clear hk); (try clear hi)))
              go_ret
              exact ⟨by first | rfl | (simp [errW_none, errW_some] <;> rfl) | (simp [*, errW_none, errW_some] <;> rfl), by repeat (first | (with_reducible first | exact HB.out | apply below_alloc | apply pw_below_drewN | apply below_drew1) | exact HB.out)⟩
          · rw [if_neg c54] at H
            have c54b0 : decide ((wrap64 (t207 + 1)) < t223) = false := decide_eq_false c54
            clear c54
            have H' := Aside0.mk H
            clear H
            go_wp2
            go_meet
            case rel => exact ⟨_, H', ⟨by have := HJ7.out; have := HJ17.out; have := HJ37.out; first | omega | exact Nat.le_refl _⟩, ⟨by repeat (first | (with_reducible first | exact HB.out | apply below_alloc | apply pw_below_drewN | apply below_drew1) | exact HB.out)⟩⟩
  · replace c33 := Bool.eq_false_iff.mpr c33
    subst c33
    have H1 : (laws_FnLinesRankedOfAll.j3 kj17 a1 a2 a3 a4 a5 l6) = some r := by rw [if_neg (show ¬ (false = true) by decide)] at H; exact H
    clear H
    have H := H1
    clear H1
    have H' := Aside0.mk H
    clear H
    go_wp2
    go_meet
    case rel => exact ⟨_, H', ⟨by have := HJ7.out; have := HJ17.out; first | omega | exact Nat.le_refl _⟩, ⟨by repeat (first | (with_reducible first | exact HB.out | apply below_alloc | apply pw_below_drewN | apply below_drew1) | exact HB.out)⟩⟩

end Go.Proofs.YtgiphajcffambaaDoor.XA
