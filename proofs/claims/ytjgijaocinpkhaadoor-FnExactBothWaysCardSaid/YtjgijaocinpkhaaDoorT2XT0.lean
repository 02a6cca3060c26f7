/- The Lean functions that the Go functions of this seat compute, each with the proof that the Go function computes it, for every input (laws: FnExactBothWays). Conditions: none beyond those that each theorem names. Written by a program of this session over the kit's printer. -/
import Derived.Test.YtjgijaocinpkhaaDoorProg
import Derived.Below
import Derived.Deep.Draws
import Derived.Deep.AppendLies
import Derived.Maps.AppendAt
import Derived.OwnWalk
import Derived.Laws.BytesArg
import Derived.Laws.MakeOwn
import Derived.Laws.OwnMore
import Derived.Deep.OwnRows
import Derived.Tactics
import Derived.Lib.ConvBytes
import Derived.Laws.Slices
import Derived.WalkKit
import Derived.KernelRfl
import Derived.RowKit3
import Derived.Deep.LoopGhost
import Derived.Deep.QuietTactic
import Derived.BigQuiet
import Derived.WideLaws
import Derived.Deep.DeepCutAuto
import Derived.Deep.CutBlock
import Derived.Deep.RegionHeld3
import Derived.Laws.Rows
import Derived.Lib.AppendStr
import Derived.ArgAppend
import Derived.Laws.IdiomCopy
import Derived.OrdersHeld
import Derived.Laws.BitsLemmas
import Derived.RowKit
import Derived.BigRegion
import Derived.Deep.DeepMust
import Derived.Lib.Hide
import Derived.RegionTactic
import Derived.Shelf.Abstract
import Derived.Test.YtjgijaocinpkhaaDoorT2Bfs
import Derived.Test.YtjgijaocinpkhaaDoorT2Ex
import Derived.Test.YtjgijaocinpkhaaDoorT2Pm
import Derived.Test.YtjgijaocinpkhaaDoorT2Shelf
import Derived.Test.YtjgijaocinpkhaaDoorT2Srts
import Derived.Test.YtjgijaocinpkhaaDoorT2WApart
import Derived.Test.YtjgijaocinpkhaaDoorT2XW
import Derived.Lib.MinMaxS
import Derived.Test.YtjgijaocinpkhaaDoorT2WWords
import Derived.Test.YtjgijaocinpkhaaDoorT2WLast
import Derived.Test.YtjgijaocinpkhaaDoorT2WTab
import Derived.Test.YtjgijaocinpkhaaDoorT2WFour
import Derived.Test.YtjgijaocinpkhaaDoorT2WQPut
import Derived.Test.YtjgijaocinpkhaaDoorT2WApart
import Derived.Test.YtjgijaocinpkhaaDoorT2WArr
import Derived.Test.YtjgijaocinpkhaaDoorT2WZeros
import Derived.Test.YtjgijaocinpkhaaDoorT2WFoot
import Derived.Test.YtjgijaocinpkhaaDoorT2WKept
import Derived.Test.YtjgijaocinpkhaaDoorT2WShare
import Derived.Test.YtjgijaocinpkhaaDoorT2WN
import Derived.Test.YtjgijaocinpkhaaDoorT2WFootNe
import Derived.Test.YtjgijaocinpkhaaDoorT2WAt
import Derived.Test.YtjgijaocinpkhaaDoorT2WEqStruct
import Derived.Test.YtjgijaocinpkhaaDoorT2WRepsOne
import Derived.Test.YtjgijaocinpkhaaDoorT2WInv
import Derived.Test.YtjgijaocinpkhaaDoorT2WInvWords
import Derived.Test.YtjgijaocinpkhaaDoorT2WGuard
import Derived.Test.YtjgijaocinpkhaaDoorT2WNEv
import Derived.Test.YtjgijaocinpkhaaDoorT2WMore
namespace Go.Proofs.YtjgijaocinpkhaaDoor.XT
open Go.RowKit Go.Proofs.YtjgijaocinpkhaaDoorW.PrintWords Go.Proofs.YtjgijaocinpkhaaDoorW.PrintLast Go.Proofs.YtjgijaocinpkhaaDoorW.PrintMore
attribute [local go_sem] max2_int min2_int max_two min_two max_three min_three max_four min_four   -- for this text's walks alone
attribute [local go_sem] Lib.run_min_strs Go.Proofs.YtjgijaocinpkhaaDoorXW.run_min2_strs Go.Proofs.YtjgijaocinpkhaaDoorXW.run_int_string
set_option linter.unusedVariables false
set_option linter.unusedSimpArgs false

def errW : Option Int → Value
  | none => .nilIface
  | some c => .iface 0 (.int .i64 c)
theorem errW_none : errW none = .nilIface := rfl
theorem errW_some (c : Int) : errW (some c) = .iface 0 (.int .i64 c) := rfl

theorem info3 : (Tryd.prog.info? 3).map (fun i => (i.zero, i.size, i.bytes)) = some (some (.int .i64 0), 1, 8) := by kernel_rfl
theorem info9 : (Tryd.prog.info? 9).map (fun i => (i.zero, i.size, i.bytes)) = some (some (.string ⟨#[]⟩), 1, 16) := by kernel_rfl
theorem info83 : (Tryd.prog.info? 83).map (fun i => (i.zero, i.size, i.bytes)) = some (some (.agg #[(.int .i64 0), (.int .i64 0)]), 2, 16) := by kernel_rfl
-- the values' own types
/-! #### struct type 83 -/
structure S83 where
  f0 : Int
  f1 : Int
def z83 : S83 := ⟨(0 : Int), (0 : Int)⟩
def k83 : Kd S83 := Kd.iso (Kd.pair (Kd.int .i64) (Kd.int .i64)) (fun x : S83 => (x.f0, x.f1))
theorem k83_open {w : World} {x : S83} {cs : List Value} (h : k83.K w x cs) : cs = [.int .i64 x.f0, .int .i64 x.f1] := by
  obtain ⟨_, _, rfl, rfl, rfl⟩ := h
  exact rfl
theorem k83_openM {w : World} {base : Nat} {ok : Nat → Prop} {x : S83} {cs : List Value} (h : k83.M w base ok x cs) : cs = [.int .i64 x.f0, .int .i64 x.f1] := by
  obtain ⟨_, _, rfl, rfl, rfl⟩ := h
  exact rfl
theorem k83_mkM (w : World) (base : Nat) (ok : Nat → Prop) (x : S83)  : k83.M w base ok x [.int .i64 x.f0, .int .i64 x.f1] := ⟨[.int .i64 x.f0], [.int .i64 x.f1], rfl, rfl, rfl⟩
def rd_T83 (xs : List S83) (i : Int) : S83 := xs.getD i.toNat z83
theorem at_T83 {w : World} {A : Option Addr} {n : Nat} {xs : List S83} (h : Kd.C k83 w A n xs) (i : Int) (h0 : 0 ≤ i) (h1 : i < n) : ∃ ad , A = some ad ∧ w.cell? (ad.add (i.toNat * 2)) = some (.int .i64 (rd_T83 xs i).f0) ∧ w.cell? ⟨(ad.add (i.toNat * 2)).block, (ad.add (i.toNat * 2)).off + 1, none⟩ = some (.int .i64 (rd_T83 xs i).f1) := by
  obtain ⟨ad, c, e, _, hK, hc0⟩ := Kd.C_get h z83 i h0 h1
  have hc : ∀ j u, c[j]? = some u → w.cell? (ad.add (i.toNat * 2 + j)) = some u := hc0
  obtain rfl := k83_open hK
  exact ⟨ad, e, hc 0 _ rfl, by rw [← add_field _ _ 1 (by omega)]; exact hc 1 _ rfl⟩

end Go.Proofs.YtjgijaocinpkhaaDoor.XT
