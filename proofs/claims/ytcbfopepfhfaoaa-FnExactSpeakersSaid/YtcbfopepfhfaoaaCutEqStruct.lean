-- CUT, by wip/slim.py of this claim's session, out of a text that print.sh printed: not print.sh's own text.
import Derived.Test.YtcbfopepfhfaoaaCutWords
import Derived.Laws.StructEq
/-! ### 53. '==' of structs as_ one Bool -/
namespace Go.Proofs.YtcbfopepfhfaoaaW.PrintWords
open Go.RowKit
section
variable {P : Program} {d : Nat} {xs ys : Array Value} {f : Field} {fs : List Field} {a b : Value} {r s : Bool} {w : World}
end
end Go.Proofs.YtcbfopepfhfaoaaW.PrintWords
