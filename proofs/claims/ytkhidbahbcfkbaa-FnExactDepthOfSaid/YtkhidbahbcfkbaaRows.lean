/-
  No cell of these rows narrows 'for every input' (looked for: loops, veiled, ifaces, maps, wideKeys, modest, calm, conditions, laid).
  DERIVED. THE GIVEN ROWS OF THIS SEAT. 3 by the template 'for every input the law returns true; each argument reads behind the call as it read before'; 0 by the template 'total and deterministic' (their statements: YtkhidbahbcfkbaaTotals.lean).
  GIVEN WITH THE SEED: the statements are not yours to turn. If you find one false, say at which input.
  Laid BY PROGRAM, IN A SANDBOX (cutbox-rows.mjs): the forced cells as the released guide's own fill.sh prints them over the translation d993a635da5c6629… (all of the seat's roots in one cut). By AI agents, Wed Nov 11 2026. No macro, syntax, notation, axiom, sorry.
-/
import Derived.Test.YtkhidbahbcfkbaaChecked
import GoSem.Claim
import GoSem.ClaimJoined
import GoSem.ClaimMapViews
import Derived.JoinedTies
import Derived.KernelRfl
namespace Go.Proofs.Ytkhidbahbcfkbaa
/- THE CELL 'sum', in the pinned program and in every row, IS THE sha256 OF THE DUMP (.gsa) THAT YtkhidbahbcfkbaaProg.lean LOADS. Nothing in Lean hashes anything: it is a label: what it is worth is what the hold of that sum in a sandbox is worth. -/
noncomputable def Try.pinned : Pinned := { name := "ytkhidbahbcfkbaa", sum := "d993a635da5c66290285a5cc6d4b0ec7ffc995e2c423786e4d672d03a546b30a", checked := Try.checked }
namespace Rows
def none {H : Type} : Left H := { results := [], args := [] }

/-- 'laws.FnExactGraphRight': WHATEVER THE INPUT: true; the input reads as it did. -/
def fnExactGraphRightSpec : ChangeSpec := { name := "fnExactGraphRight", fn := fun _ => fun
  | [d] => { results := [.lit (.bool true)], args := [d] }
  | _ => none }
def fnExactGraphRightRow : OpenClaim := { program := "ytkhidbahbcfkbaa", sum := "d993a635da5c66290285a5cc6d4b0ec7ffc995e2c423786e4d672d03a546b30a", func := "loop.example/g00683/laws.FnExactGraphRight", spec := "fnExactGraphRight", unfollowed := true, recurses := true, apart := false }
def FnExactGraphRightSaid : Prop := fnExactGraphRightRow.holds Try.pinned (OpenSpec.ofChange fnExactGraphRightSpec)

/-- ITS FALSE NEIGHBOUR: 'it returns false'. Refute it at one input. -/
def fnExactGraphRightWrong : ChangeSpec := { name := "fnExactGraphRight", fn := fun _ => fun
  | [d] => { results := [.lit (.bool false)], args := [d] }
  | _ => none }
def FnExactGraphRightWrongFalsely : Prop := fnExactGraphRightRow.holds Try.pinned (OpenSpec.ofChange fnExactGraphRightWrong)

/-- 'laws.FnExactDepthOf': WHATEVER THE INPUT: true; the input reads as it did. -/
def fnExactDepthOfSpec : ChangeSpec := { name := "fnExactDepthOf", fn := fun _ => fun
  | [d1, d2] => { results := [.lit (.bool true)], args := [d1, d2] }
  | _ => none }
def fnExactDepthOfRow : OpenClaim := { program := "ytkhidbahbcfkbaa", sum := "d993a635da5c66290285a5cc6d4b0ec7ffc995e2c423786e4d672d03a546b30a", func := "loop.example/g00683/laws.FnExactDepthOf", spec := "fnExactDepthOf", unfollowed := true, recurses := true, apart := false }
def FnExactDepthOfSaid : Prop := fnExactDepthOfRow.holds Try.pinned (OpenSpec.ofChange fnExactDepthOfSpec)

/-- ITS FALSE NEIGHBOUR: 'it returns false'. Refute it at one input. -/
def fnExactDepthOfWrong : ChangeSpec := { name := "fnExactDepthOf", fn := fun _ => fun
  | [d1, d2] => { results := [.lit (.bool false)], args := [d1, d2] }
  | _ => none }
def FnExactDepthOfWrongFalsely : Prop := fnExactDepthOfRow.holds Try.pinned (OpenSpec.ofChange fnExactDepthOfWrong)

/-- 'laws.FnExactAheadOf': WHATEVER THE INPUT: true; the input reads as it did. -/
def fnExactAheadOfSpec : ChangeSpec := { name := "fnExactAheadOf", fn := fun _ => fun
  | [d1, d2, d3] => { results := [.lit (.bool true)], args := [d1, d2, d3] }
  | _ => none }
def fnExactAheadOfRow : OpenClaim := { program := "ytkhidbahbcfkbaa", sum := "d993a635da5c66290285a5cc6d4b0ec7ffc995e2c423786e4d672d03a546b30a", func := "loop.example/g00683/laws.FnExactAheadOf", spec := "fnExactAheadOf", unfollowed := true, recurses := true, apart := false }
def FnExactAheadOfSaid : Prop := fnExactAheadOfRow.holds Try.pinned (OpenSpec.ofChange fnExactAheadOfSpec)

/-- ITS FALSE NEIGHBOUR: 'it returns false'. Refute it at one input. -/
def fnExactAheadOfWrong : ChangeSpec := { name := "fnExactAheadOf", fn := fun _ => fun
  | [d1, d2, d3] => { results := [.lit (.bool false)], args := [d1, d2, d3] }
  | _ => none }
def FnExactAheadOfWrongFalsely : Prop := fnExactAheadOfRow.holds Try.pinned (OpenSpec.ofChange fnExactAheadOfWrong)

/- THE SECOND FORM. 'bulk': how many values and letters a reading holds, each counted each time it is reached (what is shared counts as often as it is met; a slice's spare places count too). A statement '..UptoSaid' is the law's where the arguments, and the package variables that the reading takes, are together of bulk at most 1048576: NARROWER than '..Said'. Prove '..Said' where nothing that the law and all that it calls make is longer than what came in: it says more and counts as full. Else prove '..UptoSaid'. A law counts once. -/
mutual
def uptoBulk {H : Type} : DataW H → Nat
  | .lit (.string bytes) => bytes.length + 1
  | .lit _ => 1
  | .nil => 1
  | .ptr d => uptoBulk d + 1
  | .slice elems spare => uptoBulkAll elems + uptoBulkAll spare + 1
  | .agg parts => uptoBulkAll parts + 1
  | .iface _ d => uptoBulk d + 1
  | .map entries => uptoBulkEntries entries + 1
  | .held _ => 1
def uptoBulkAll {H : Type} : List (DataW H) → Nat
  | [] => 0
  | d :: r => uptoBulk d + uptoBulkAll r
def uptoBulkEntries {H : Type} : List (Lit × DataW H) → Nat
  | [] => 0
  | x :: r => uptoBulkEntry x + uptoBulkEntries r
def uptoBulkEntry {H : Type} : Lit × DataW H → Nat
  | (.string bytes, d) => bytes.length + uptoBulk d + 1
  | (_, d) => uptoBulk d + 1
 end
def uptoSmall : (H : Type) → List (DataW H) → Bool := fun _ ds => decide (uptoBulkAll ds ≤ 1048576)
def OpenSpec.upto (s : _root_.Go.ChangeSpec) : _root_.Go.OpenSpec := { _root_.Go.OpenSpec.ofChange s with cond := some uptoSmall }

/-- 'laws.FnExactGraphRight', WHERE WHAT IT READS IS OF BULK AT MOST 1048576: true; the input reads as it did. -/
def fnExactGraphRightUptoRow : OpenClaim := { program := "ytkhidbahbcfkbaa", sum := "d993a635da5c66290285a5cc6d4b0ec7ffc995e2c423786e4d672d03a546b30a", func := "loop.example/g00683/laws.FnExactGraphRight", spec := "fnExactGraphRight", unfollowed := true, recurses := true, apart := false, narrowed := true }
def FnExactGraphRightUptoSaid : Prop := fnExactGraphRightUptoRow.holds Try.pinned (OpenSpec.upto fnExactGraphRightSpec)

/-- 'laws.FnExactDepthOf', WHERE WHAT IT READS IS OF BULK AT MOST 1048576: true; the input reads as it did. -/
def fnExactDepthOfUptoRow : OpenClaim := { program := "ytkhidbahbcfkbaa", sum := "d993a635da5c66290285a5cc6d4b0ec7ffc995e2c423786e4d672d03a546b30a", func := "loop.example/g00683/laws.FnExactDepthOf", spec := "fnExactDepthOf", unfollowed := true, recurses := true, apart := false, narrowed := true }
def FnExactDepthOfUptoSaid : Prop := fnExactDepthOfUptoRow.holds Try.pinned (OpenSpec.upto fnExactDepthOfSpec)

/-- 'laws.FnExactAheadOf', WHERE WHAT IT READS IS OF BULK AT MOST 1048576: true; the input reads as it did. -/
def fnExactAheadOfUptoRow : OpenClaim := { program := "ytkhidbahbcfkbaa", sum := "d993a635da5c66290285a5cc6d4b0ec7ffc995e2c423786e4d672d03a546b30a", func := "loop.example/g00683/laws.FnExactAheadOf", spec := "fnExactAheadOf", unfollowed := true, recurses := true, apart := false, narrowed := true }
def FnExactAheadOfUptoSaid : Prop := fnExactAheadOfUptoRow.holds Try.pinned (OpenSpec.upto fnExactAheadOfSpec)

end Rows
end Go.Proofs.Ytkhidbahbcfkbaa
