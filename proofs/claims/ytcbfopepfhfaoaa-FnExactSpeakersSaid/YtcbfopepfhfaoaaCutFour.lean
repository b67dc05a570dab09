-- CUT, by wip/slim.py of this claim's session, out of a text that print.sh printed: not print.sh's own text.
import Derived.Test.YtcbfopepfhfaoaaCutTab
/-! ### 56. Four, five, six operations that may come up next, in any order -/
namespace Go.Proofs.YtcbfopepfhfaoaaW.PrintLast
section
variable {P : Program} {ops : Array Oper} {Q : Exit → Act → World → Prop} {md : Region.Mode} {S : World → Prop} {ds : List Nat} {T : Bool × List (List Nat × List Nat)}
end
end Go.Proofs.YtcbfopepfhfaoaaW.PrintLast
