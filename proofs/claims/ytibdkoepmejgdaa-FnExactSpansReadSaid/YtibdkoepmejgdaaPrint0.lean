-- Printed by wip/myprint.py over the kit's print, in this session's own call.
import Derived.Test.YtibdkoepmejgdaaProg
import Derived.Below
import Derived.Deep.Draws
import Derived.Deep.AppendLies
import Derived.Maps.AppendAt
import Derived.OwnWalk
import Derived.Laws.BytesArg
import Derived.Laws.MakeOwn
import Derived.Laws.OwnMore
import Derived.Deep.OwnRows
import Derived.Tactics
import Derived.Lib.ConvBytes
import Derived.Laws.Slices
import Derived.WalkKit
import Derived.KernelRfl
import Derived.RowKit3
import Derived.Deep.LoopGhost
import Derived.Deep.QuietTactic
import Derived.BigQuiet
import Derived.WideLaws
import Derived.Deep.DeepCutAuto
import Derived.Deep.CutBlock
import Derived.Deep.RegionHeld3
import Derived.Laws.Rows
import Derived.Lib.AppendStr
import Derived.ArgAppend
import Derived.Laws.IdiomCopy
import Derived.OrdersHeld
import Derived.Laws.BitsLemmas
import Derived.RowKit
import Derived.Test.YtibdkoepmejgdaaSpecW
import Derived.Laws.Bits64
import Derived.Laws.Closers25b
import Derived.Shelf.Abstract
import Derived.Test.YtibdkoepmejgdaaCutWords
import Derived.Test.YtibdkoepmejgdaaCutLast
import Derived.Test.YtibdkoepmejgdaaCutTab
import Derived.Test.YtibdkoepmejgdaaCutFour
import Derived.Test.YtibdkoepmejgdaaCutQPut
import Derived.Test.YtibdkoepmejgdaaCutApart
import Derived.Test.YtibdkoepmejgdaaCutArr
import Derived.Test.YtibdkoepmejgdaaCutZeros
import Derived.Test.YtibdkoepmejgdaaCutFoot
import Derived.Test.YtibdkoepmejgdaaCutKept
import Derived.Test.YtibdkoepmejgdaaCutShare
import Derived.Test.YtibdkoepmejgdaaCutN
import Derived.Test.YtibdkoepmejgdaaCutFootNe
import Derived.Test.YtibdkoepmejgdaaCutAt
import Derived.Test.YtibdkoepmejgdaaCutEqStruct
import Derived.Test.YtibdkoepmejgdaaCutRepsOne
import Derived.Test.YtibdkoepmejgdaaCutInv
import Derived.Test.YtibdkoepmejgdaaCutInvWords
import Derived.Test.YtibdkoepmejgdaaCutGuard
import Derived.Test.YtibdkoepmejgdaaCutNEv
import Derived.Test.YtibdkoepmejgdaaCutMore
namespace Go.Proofs.Ytibdkoepmejgdaa.Print
open Go.RowKit Go.Proofs.YtibdkoepmejgdaaW.PrintWords Go.Proofs.YtibdkoepmejgdaaW.PrintLast Go.Proofs.YtibdkoepmejgdaaW.PrintMore
attribute [local go_sem] max2_int min2_int max_two min_two max_three min_three max_four min_four   -- for this text's walks alone
set_option linter.unusedVariables false
set_option linter.unusedSimpArgs false



def errW : Option Int → Value
  | none => .nilIface
  | some c => .iface 0 (.int .i64 c)
theorem errW_none : errW none = .nilIface := rfl
theorem errW_some (c : Int) : errW (some c) = .iface 0 (.int .i64 c) := rfl

theorem info5 : (Try.prog.info? 5).map (fun i => (i.zero, i.size, i.bytes)) = some (some (.int .u8 0), 1, 1) := by kernel_rfl
theorem info48 : (Try.prog.info? 48).map (fun i => (i.zero, i.size, i.bytes)) = some (some (.agg #[(.int .i64 0), (.int .i64 0)]), 2, 16) := by kernel_rfl
-- the values' own types
/-! #### struct type 48 -/
structure S48 where
  f0 : Int
  f1 : Int
def z48 : S48 := ⟨(0 : Int), (0 : Int)⟩
def k48 : Kd S48 := Kd.iso (Kd.pair (Kd.int .i64) (Kd.int .i64)) (fun x : S48 => (x.f0, x.f1))
theorem k48_open {w : World} {x : S48} {cs : List Value} (h : k48.K w x cs) : cs = [.int .i64 x.f0, .int .i64 x.f1] := by
  obtain ⟨_, _, rfl, rfl, rfl⟩ := h
  exact rfl
theorem k48_openM {w : World} {base : Nat} {ok : Nat → Prop} {x : S48} {cs : List Value} (h : k48.M w base ok x cs) : cs = [.int .i64 x.f0, .int .i64 x.f1] := by
  obtain ⟨_, _, rfl, rfl, rfl⟩ := h
  exact rfl
theorem k48_mk (w : World) (x : S48)  : k48.K w x [.int .i64 x.f0, .int .i64 x.f1] := ⟨[.int .i64 x.f0], [.int .i64 x.f1], rfl, rfl, rfl⟩
theorem k48_mkM (w : World) (base : Nat) (ok : Nat → Prop) (x : S48)  : k48.M w base ok x [.int .i64 x.f0, .int .i64 x.f1] := ⟨[.int .i64 x.f0], [.int .i64 x.f1], rfl, rfl, rfl⟩
def rd_T48 (xs : List S48) (i : Int) : S48 := xs.getD i.toNat z48
theorem at_T48 {w : World} {A : Option Addr} {n : Nat} {xs : List S48} (h : Kd.C k48 w A n xs) (i : Int) (h0 : 0 ≤ i) (h1 : i < n) : ∃ ad , A = some ad ∧ w.cell? (ad.add (i.toNat * 2)) = some (.int .i64 (rd_T48 xs i).f0) ∧ w.cell? ⟨(ad.add (i.toNat * 2)).block, (ad.add (i.toNat * 2)).off + 1, none⟩ = some (.int .i64 (rd_T48 xs i).f1) := by
  obtain ⟨ad, c, e, _, hK, hc0⟩ := Kd.C_get h z48 i h0 h1
  have hc : ∀ j u, c[j]? = some u → w.cell? (ad.add (i.toNat * 2 + j)) = some u := hc0
  obtain rfl := k48_open hK
  exact ⟨ad, e, hc 0 _ rfl, by rw [← add_field _ _ 1 (by omega)]; exact hc 1 _ rfl⟩

end Go.Proofs.Ytibdkoepmejgdaa.Print
