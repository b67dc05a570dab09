/- Slices that are nil. -/
import Derived.Test.YtfojdkfalmahiaaCutMore
import Derived.Test.YtfojdkfalmahiaaCutLast
import Derived.Test.YtfojdkfalmahiaaProg
namespace Go.Proofs.Ytfojdkfalmahiaa.Print
open Go.RowKit Go.Proofs.YtfojdkfalmahiaaW.PrintWords Go.Proofs.YtfojdkfalmahiaaW.PrintLast Go.Proofs.YtfojdkfalmahiaaW.PrintMore
set_option linter.unusedVariables false
set_option linter.unusedSimpArgs false

/-! Slices that are nil, all of them: one cell, and nothing that could be told. -/
def Kd.nils : Kd Bool := Kd.scalar (fun _ => Value.slice none 0 0) (fun _ => rfl)
theorem Kd.at_nils {w : World} {A : Option Addr} {n : Nat} {xs : List Bool} (h : Kd.nils.C w A n xs) (i : Int) (h0 : 0 ≤ i) (h1 : i < n) : ∃ ad, A = some ad ∧ w.cell? (ad.add i.toNat) = some (.slice none 0 0) :=
  ReadsOf.at_ (Kd.reads_of_C (enc := fun _ : Bool => Value.slice none 0 0) (d := false) (h1 := fun _ => rfl) h) i h0 h1


end Go.Proofs.Ytfojdkfalmahiaa.Print
