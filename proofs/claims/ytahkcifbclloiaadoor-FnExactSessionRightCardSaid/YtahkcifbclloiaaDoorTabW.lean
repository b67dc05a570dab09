/- The library's table. -/
import Derived.Test.YtahkcifbclloiaaDoorShelf
import Derived.Test.YtahkcifbclloiaaDoorCutMore
import Derived.Test.YtahkcifbclloiaaDoorCutLast
import Derived.Lib.AppendIntMem
import Derived.Lib.LaidTab
import Derived.Lib.ParseIntBTie
namespace Go.Proofs.YtahkcifbclloiaaDoor.Print
open Go.RowKit Go.Proofs.YtahkcifbclloiaaDoorW.PrintWords Go.Proofs.YtahkcifbclloiaaDoorW.PrintLast Go.Proofs.YtahkcifbclloiaaDoorW.PrintMore
set_option linter.unusedVariables false
set_option linter.unusedSimpArgs false

/-! The library's table of powers of ten, and its two errors: what they hold stays, whatever is made behind them. -/
def ErrAt (w : World) (g : Nat) : Prop := ∃ ev, w.cell? ⟨g, 0, none⟩ = some ev ∧ (ev = .nilIface ∨ ∃ te pe, ev = .iface te pe)
theorem ErrAt.step {w w1 : World} {g : Nat} (h : ErrAt w g) (hb : Below w.heap.size w w1) : ErrAt w1 g := by
  obtain ⟨ev, hc, he⟩ := h
  exact ⟨ev, (hb.cell (World.block_lt_of_cell? w _ hc)).trans hc, he⟩
def TabB (P : Program) (w : World) : Prop := Lib.TabBelow P w.heap.size w "internal/strconv.uint64pow10" .u64 Lib.pow10Tab ∧ ErrAt w 1 ∧ ErrAt w 2
theorem TabB.step {P : Program} {w w1 : World} (h : TabB P w) (hb : Below w.heap.size w w1) : TabB P w1 := ⟨fun w' hb' => h.1 w' (below_weaken hb hb.size hb'), h.2.1.step hb, h.2.2.step hb⟩
theorem TabB.here {P : Program} {w : World} (h : TabB P w) : Lib.TabIs P w "internal/strconv.uint64pow10" .u64 Lib.pow10Tab := h.1.here
theorem TabB.synErr {P : Program} {w : World} (h : TabB P w) : ErrAt w 1 := h.2.1
theorem TabB.rngErr {P : Program} {w : World} (h : TabB P w) : ErrAt w 2 := h.2.2
theorem parse_below {w w' : World} {e : TypeId} (h : w' = w ∨ ∃ t, w' = Lib.bytesWorld w e t) : Below w.heap.size w w' := by
  rcases h with rfl | ⟨t, rfl⟩
  · exact Below.refl _ _
  · exact bytes_below (Below.refl _ _) (Nat.le_refl _) e t
theorem parseInt_bounds {l : List UInt8} {v : Int} (h : Lib.parseIntB 64 l = .ok v) : -9223372036854775808 ≤ v ∧ v ≤ 9223372036854775807 := by
  obtain ⟨h1, h2⟩ := Lib.parseIntB_bounds h
  have e : ((2 ^ (64 - 1) : Nat) : Int) = 9223372036854775808 := by decide
  omega


end Go.Proofs.YtahkcifbclloiaaDoor.Print
