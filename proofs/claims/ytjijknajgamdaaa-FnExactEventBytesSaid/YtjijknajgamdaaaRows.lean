/-
  No cell of these rows narrows 'for every input' (looked for: loops, veiled, ifaces, maps, wideKeys, modest, calm, conditions, laid).
  DERIVED. THE GIVEN ROWS OF THIS SEAT. 9 by the template 'for every input the law returns true; each argument reads behind the call as it read before'; 0 by the template 'total and deterministic' (their statements: YtjijknajgamdaaaTotals.lean).
  GIVEN WITH THE SEED: the statements are not yours to turn. If you find one false, say at which input.
  Laid BY PROGRAM, IN A SANDBOX (cutbox-rows.mjs): the forced cells as the released guide's own fill.sh prints them over the translation 2bd58475073a82e6… (all of the seat's roots in one cut). By AI agents, Wed Nov 11 2026. No macro, syntax, notation, axiom, sorry.
-/
import Derived.Test.YtjijknajgamdaaaChecked
import GoSem.Claim
import GoSem.ClaimJoined
import GoSem.ClaimMapViews
import Derived.JoinedTies
import Derived.KernelRfl
namespace Go.Proofs.Ytjijknajgamdaaa
/- THE CELL 'sum', in the pinned program and in every row, IS THE sha256 OF THE DUMP (.gsa) THAT YtjijknajgamdaaaProg.lean LOADS. Nothing in Lean hashes anything: it is a label: what it is worth is what the hold of that sum in a sandbox is worth. -/
noncomputable def Try.pinned : Pinned := { name := "ytjijknajgamdaaa", sum := "2bd58475073a82e6dd19622b09747875f962d44f9860125d23c8a923724ed2ba", checked := Try.checked }
namespace Rows
def none {H : Type} : Left H := { results := [], args := [] }

/-- 'laws.FnExactSameEvent': WHATEVER THE INPUT: true; the input reads as it did. -/
def fnExactSameEventSpec : ChangeSpec := { name := "fnExactSameEvent", fn := fun _ => fun
  | [d1, d2] => { results := [.lit (.bool true)], args := [d1, d2] }
  | _ => none }
def fnExactSameEventRow : OpenClaim := { program := "ytjijknajgamdaaa", sum := "2bd58475073a82e6dd19622b09747875f962d44f9860125d23c8a923724ed2ba", func := "loop.example/g00683/laws.FnExactSameEvent", spec := "fnExactSameEvent", apart := false }
def FnExactSameEventSaid : Prop := fnExactSameEventRow.holds Try.pinned (OpenSpec.ofChange fnExactSameEventSpec)

/-- ITS FALSE NEIGHBOUR: 'it returns false'. Refute it at one input. -/
def fnExactSameEventWrong : ChangeSpec := { name := "fnExactSameEvent", fn := fun _ => fun
  | [d1, d2] => { results := [.lit (.bool false)], args := [d1, d2] }
  | _ => none }
def FnExactSameEventWrongFalsely : Prop := fnExactSameEventRow.holds Try.pinned (OpenSpec.ofChange fnExactSameEventWrong)

/-- 'laws.FnExactEventRight': WHATEVER THE INPUT: true; the input reads as it did. -/
def fnExactEventRightSpec : ChangeSpec := { name := "fnExactEventRight", fn := fun _ => fun
  | [d] => { results := [.lit (.bool true)], args := [d] }
  | _ => none }
def fnExactEventRightRow : OpenClaim := { program := "ytjijknajgamdaaa", sum := "2bd58475073a82e6dd19622b09747875f962d44f9860125d23c8a923724ed2ba", func := "loop.example/g00683/laws.FnExactEventRight", spec := "fnExactEventRight", apart := false }
def FnExactEventRightSaid : Prop := fnExactEventRightRow.holds Try.pinned (OpenSpec.ofChange fnExactEventRightSpec)

/-- ITS FALSE NEIGHBOUR: 'it returns false'. Refute it at one input. -/
def fnExactEventRightWrong : ChangeSpec := { name := "fnExactEventRight", fn := fun _ => fun
  | [d] => { results := [.lit (.bool false)], args := [d] }
  | _ => none }
def FnExactEventRightWrongFalsely : Prop := fnExactEventRightRow.holds Try.pinned (OpenSpec.ofChange fnExactEventRightWrong)

/-- 'laws.FnExactIsState': WHATEVER THE INPUT: true; the input reads as it did. -/
def fnExactIsStateSpec : ChangeSpec := { name := "fnExactIsState", fn := fun _ => fun
  | [d] => { results := [.lit (.bool true)], args := [d] }
  | _ => none }
def fnExactIsStateRow : OpenClaim := { program := "ytjijknajgamdaaa", sum := "2bd58475073a82e6dd19622b09747875f962d44f9860125d23c8a923724ed2ba", func := "loop.example/g00683/laws.FnExactIsState", spec := "fnExactIsState", apart := false }
def FnExactIsStateSaid : Prop := fnExactIsStateRow.holds Try.pinned (OpenSpec.ofChange fnExactIsStateSpec)

/-- ITS FALSE NEIGHBOUR: 'it returns false'. Refute it at one input. -/
def fnExactIsStateWrong : ChangeSpec := { name := "fnExactIsState", fn := fun _ => fun
  | [d] => { results := [.lit (.bool false)], args := [d] }
  | _ => none }
def FnExactIsStateWrongFalsely : Prop := fnExactIsStateRow.holds Try.pinned (OpenSpec.ofChange fnExactIsStateWrong)

/-- 'laws.FnExactEventBytes': WHATEVER THE INPUT: true; the input reads as it did. -/
def fnExactEventBytesSpec : ChangeSpec := { name := "fnExactEventBytes", fn := fun _ => fun
  | [d] => { results := [.lit (.bool true)], args := [d] }
  | _ => none }
def fnExactEventBytesRow : OpenClaim := { program := "ytjijknajgamdaaa", sum := "2bd58475073a82e6dd19622b09747875f962d44f9860125d23c8a923724ed2ba", func := "loop.example/g00683/laws.FnExactEventBytes", spec := "fnExactEventBytes", apart := false }
def FnExactEventBytesSaid : Prop := fnExactEventBytesRow.holds Try.pinned (OpenSpec.ofChange fnExactEventBytesSpec)

/-- ITS FALSE NEIGHBOUR: 'it returns false'. Refute it at one input. -/
def fnExactEventBytesWrong : ChangeSpec := { name := "fnExactEventBytes", fn := fun _ => fun
  | [d] => { results := [.lit (.bool false)], args := [d] }
  | _ => none }
def FnExactEventBytesWrongFalsely : Prop := fnExactEventBytesRow.holds Try.pinned (OpenSpec.ofChange fnExactEventBytesWrong)

/-- 'laws.FnExactEventRead': WHATEVER THE INPUT: true; the input reads as it did. -/
def fnExactEventReadSpec : ChangeSpec := { name := "fnExactEventRead", fn := fun _ => fun
  | [d] => { results := [.lit (.bool true)], args := [d] }
  | _ => none }
def fnExactEventReadRow : OpenClaim := { program := "ytjijknajgamdaaa", sum := "2bd58475073a82e6dd19622b09747875f962d44f9860125d23c8a923724ed2ba", func := "loop.example/g00683/laws.FnExactEventRead", spec := "fnExactEventRead", apart := false }
def FnExactEventReadSaid : Prop := fnExactEventReadRow.holds Try.pinned (OpenSpec.ofChange fnExactEventReadSpec)

/-- ITS FALSE NEIGHBOUR: 'it returns false'. Refute it at one input. -/
def fnExactEventReadWrong : ChangeSpec := { name := "fnExactEventRead", fn := fun _ => fun
  | [d] => { results := [.lit (.bool false)], args := [d] }
  | _ => none }
def FnExactEventReadWrongFalsely : Prop := fnExactEventReadRow.holds Try.pinned (OpenSpec.ofChange fnExactEventReadWrong)

/-- 'laws.FnEvent': WHATEVER THE INPUT: true; the input reads as it did. -/
def fnEventSpec : ChangeSpec := { name := "fnEvent", fn := fun _ => fun
  | [d1, d2] => { results := [.lit (.bool true)], args := [d1, d2] }
  | _ => none }
def fnEventRow : OpenClaim := { program := "ytjijknajgamdaaa", sum := "2bd58475073a82e6dd19622b09747875f962d44f9860125d23c8a923724ed2ba", func := "loop.example/g00683/laws.FnEvent", spec := "fnEvent", apart := false }
def FnEventSaid : Prop := fnEventRow.holds Try.pinned (OpenSpec.ofChange fnEventSpec)

/-- ITS FALSE NEIGHBOUR: 'it returns false'. Refute it at one input. -/
def fnEventWrong : ChangeSpec := { name := "fnEvent", fn := fun _ => fun
  | [d1, d2] => { results := [.lit (.bool false)], args := [d1, d2] }
  | _ => none }
def FnEventWrongFalsely : Prop := fnEventRow.holds Try.pinned (OpenSpec.ofChange fnEventWrong)

/-- 'laws.FnExactStateRight': WHATEVER THE INPUT: true; the input reads as it did. -/
def fnExactStateRightSpec : ChangeSpec := { name := "fnExactStateRight", fn := fun _ => fun
  | [d] => { results := [.lit (.bool true)], args := [d] }
  | _ => none }
def fnExactStateRightRow : OpenClaim := { program := "ytjijknajgamdaaa", sum := "2bd58475073a82e6dd19622b09747875f962d44f9860125d23c8a923724ed2ba", func := "loop.example/g00683/laws.FnExactStateRight", spec := "fnExactStateRight", apart := false }
def FnExactStateRightSaid : Prop := fnExactStateRightRow.holds Try.pinned (OpenSpec.ofChange fnExactStateRightSpec)

/-- ITS FALSE NEIGHBOUR: 'it returns false'. Refute it at one input. -/
def fnExactStateRightWrong : ChangeSpec := { name := "fnExactStateRight", fn := fun _ => fun
  | [d] => { results := [.lit (.bool false)], args := [d] }
  | _ => none }
def FnExactStateRightWrongFalsely : Prop := fnExactStateRightRow.holds Try.pinned (OpenSpec.ofChange fnExactStateRightWrong)

/-- 'laws.FnExactStateAt': WHATEVER THE INPUT: true; the input reads as it did. -/
def fnExactStateAtSpec : ChangeSpec := { name := "fnExactStateAt", fn := fun _ => fun
  | [d1, d2, d3] => { results := [.lit (.bool true)], args := [d1, d2, d3] }
  | _ => none }
def fnExactStateAtRow : OpenClaim := { program := "ytjijknajgamdaaa", sum := "2bd58475073a82e6dd19622b09747875f962d44f9860125d23c8a923724ed2ba", func := "loop.example/g00683/laws.FnExactStateAt", spec := "fnExactStateAt", unfollowed := true, recurses := true, apart := false }
def FnExactStateAtSaid : Prop := fnExactStateAtRow.holds Try.pinned (OpenSpec.ofChange fnExactStateAtSpec)

/-- ITS FALSE NEIGHBOUR: 'it returns false'. Refute it at one input. -/
def fnExactStateAtWrong : ChangeSpec := { name := "fnExactStateAt", fn := fun _ => fun
  | [d1, d2, d3] => { results := [.lit (.bool false)], args := [d1, d2, d3] }
  | _ => none }
def FnExactStateAtWrongFalsely : Prop := fnExactStateAtRow.holds Try.pinned (OpenSpec.ofChange fnExactStateAtWrong)

/-- 'laws.FnExactStateDiff': WHATEVER THE INPUT: true; the input reads as it did. -/
def fnExactStateDiffSpec : ChangeSpec := { name := "fnExactStateDiff", fn := fun _ => fun
  | [d1, d2] => { results := [.lit (.bool true)], args := [d1, d2] }
  | _ => none }
def fnExactStateDiffRow : OpenClaim := { program := "ytjijknajgamdaaa", sum := "2bd58475073a82e6dd19622b09747875f962d44f9860125d23c8a923724ed2ba", func := "loop.example/g00683/laws.FnExactStateDiff", spec := "fnExactStateDiff", unfollowed := true, recurses := true, apart := false }
def FnExactStateDiffSaid : Prop := fnExactStateDiffRow.holds Try.pinned (OpenSpec.ofChange fnExactStateDiffSpec)

/-- ITS FALSE NEIGHBOUR: 'it returns false'. Refute it at one input. -/
def fnExactStateDiffWrong : ChangeSpec := { name := "fnExactStateDiff", fn := fun _ => fun
  | [d1, d2] => { results := [.lit (.bool false)], args := [d1, d2] }
  | _ => none }
def FnExactStateDiffWrongFalsely : Prop := fnExactStateDiffRow.holds Try.pinned (OpenSpec.ofChange fnExactStateDiffWrong)

/- THE SECOND FORM. 'bulk': how many values and letters a reading holds, each counted each time it is reached (what is shared counts as often as it is met; a slice's spare places count too). A statement '..UptoSaid' is the law's where the arguments, and the package variables that the reading takes, are together of bulk at most 1048576: NARROWER than '..Said'. Prove '..Said' where nothing that the law and all that it calls make is longer than what came in: it says more and counts as full. Else prove '..UptoSaid'. A law counts once. -/
mutual
def uptoBulk {H : Type} : DataW H → Nat
  | .lit (.string bytes) => bytes.length + 1
  | .lit _ => 1
  | .nil => 1
  | .ptr d => uptoBulk d + 1
  | .slice elems spare => uptoBulkAll elems + uptoBulkAll spare + 1
  | .agg parts => uptoBulkAll parts + 1
  | .iface _ d => uptoBulk d + 1
  | .map entries => uptoBulkEntries entries + 1
  | .held _ => 1
def uptoBulkAll {H : Type} : List (DataW H) → Nat
  | [] => 0
  | d :: r => uptoBulk d + uptoBulkAll r
def uptoBulkEntries {H : Type} : List (Lit × DataW H) → Nat
  | [] => 0
  | x :: r => uptoBulkEntry x + uptoBulkEntries r
def uptoBulkEntry {H : Type} : Lit × DataW H → Nat
  | (.string bytes, d) => bytes.length + uptoBulk d + 1
  | (_, d) => uptoBulk d + 1
 end
def uptoSmall : (H : Type) → List (DataW H) → Bool := fun _ ds => decide (uptoBulkAll ds ≤ 1048576)
def OpenSpec.upto (s : _root_.Go.ChangeSpec) : _root_.Go.OpenSpec := { _root_.Go.OpenSpec.ofChange s with cond := some uptoSmall }

/-- 'laws.FnExactSameEvent', WHERE WHAT IT READS IS OF BULK AT MOST 1048576: true; the input reads as it did. -/
def fnExactSameEventUptoRow : OpenClaim := { program := "ytjijknajgamdaaa", sum := "2bd58475073a82e6dd19622b09747875f962d44f9860125d23c8a923724ed2ba", func := "loop.example/g00683/laws.FnExactSameEvent", spec := "fnExactSameEvent", apart := false, narrowed := true }
def FnExactSameEventUptoSaid : Prop := fnExactSameEventUptoRow.holds Try.pinned (OpenSpec.upto fnExactSameEventSpec)

/-- 'laws.FnExactEventRight', WHERE WHAT IT READS IS OF BULK AT MOST 1048576: true; the input reads as it did. -/
def fnExactEventRightUptoRow : OpenClaim := { program := "ytjijknajgamdaaa", sum := "2bd58475073a82e6dd19622b09747875f962d44f9860125d23c8a923724ed2ba", func := "loop.example/g00683/laws.FnExactEventRight", spec := "fnExactEventRight", apart := false, narrowed := true }
def FnExactEventRightUptoSaid : Prop := fnExactEventRightUptoRow.holds Try.pinned (OpenSpec.upto fnExactEventRightSpec)

/-- 'laws.FnExactIsState', WHERE WHAT IT READS IS OF BULK AT MOST 1048576: true; the input reads as it did. -/
def fnExactIsStateUptoRow : OpenClaim := { program := "ytjijknajgamdaaa", sum := "2bd58475073a82e6dd19622b09747875f962d44f9860125d23c8a923724ed2ba", func := "loop.example/g00683/laws.FnExactIsState", spec := "fnExactIsState", apart := false, narrowed := true }
def FnExactIsStateUptoSaid : Prop := fnExactIsStateUptoRow.holds Try.pinned (OpenSpec.upto fnExactIsStateSpec)

/-- 'laws.FnExactEventBytes', WHERE WHAT IT READS IS OF BULK AT MOST 1048576: true; the input reads as it did. -/
def fnExactEventBytesUptoRow : OpenClaim := { program := "ytjijknajgamdaaa", sum := "2bd58475073a82e6dd19622b09747875f962d44f9860125d23c8a923724ed2ba", func := "loop.example/g00683/laws.FnExactEventBytes", spec := "fnExactEventBytes", apart := false, narrowed := true }
def FnExactEventBytesUptoSaid : Prop := fnExactEventBytesUptoRow.holds Try.pinned (OpenSpec.upto fnExactEventBytesSpec)

/-- 'laws.FnExactEventRead', WHERE WHAT IT READS IS OF BULK AT MOST 1048576: true; the input reads as it did. -/
def fnExactEventReadUptoRow : OpenClaim := { program := "ytjijknajgamdaaa", sum := "2bd58475073a82e6dd19622b09747875f962d44f9860125d23c8a923724ed2ba", func := "loop.example/g00683/laws.FnExactEventRead", spec := "fnExactEventRead", apart := false, narrowed := true }
def FnExactEventReadUptoSaid : Prop := fnExactEventReadUptoRow.holds Try.pinned (OpenSpec.upto fnExactEventReadSpec)

/-- 'laws.FnEvent', WHERE WHAT IT READS IS OF BULK AT MOST 1048576: true; the input reads as it did. -/
def fnEventUptoRow : OpenClaim := { program := "ytjijknajgamdaaa", sum := "2bd58475073a82e6dd19622b09747875f962d44f9860125d23c8a923724ed2ba", func := "loop.example/g00683/laws.FnEvent", spec := "fnEvent", apart := false, narrowed := true }
def FnEventUptoSaid : Prop := fnEventUptoRow.holds Try.pinned (OpenSpec.upto fnEventSpec)

/-- 'laws.FnExactStateRight', WHERE WHAT IT READS IS OF BULK AT MOST 1048576: true; the input reads as it did. -/
def fnExactStateRightUptoRow : OpenClaim := { program := "ytjijknajgamdaaa", sum := "2bd58475073a82e6dd19622b09747875f962d44f9860125d23c8a923724ed2ba", func := "loop.example/g00683/laws.FnExactStateRight", spec := "fnExactStateRight", apart := false, narrowed := true }
def FnExactStateRightUptoSaid : Prop := fnExactStateRightUptoRow.holds Try.pinned (OpenSpec.upto fnExactStateRightSpec)

/-- 'laws.FnExactStateAt', WHERE WHAT IT READS IS OF BULK AT MOST 1048576: true; the input reads as it did. -/
def fnExactStateAtUptoRow : OpenClaim := { program := "ytjijknajgamdaaa", sum := "2bd58475073a82e6dd19622b09747875f962d44f9860125d23c8a923724ed2ba", func := "loop.example/g00683/laws.FnExactStateAt", spec := "fnExactStateAt", unfollowed := true, recurses := true, apart := false, narrowed := true }
def FnExactStateAtUptoSaid : Prop := fnExactStateAtUptoRow.holds Try.pinned (OpenSpec.upto fnExactStateAtSpec)

/-- 'laws.FnExactStateDiff', WHERE WHAT IT READS IS OF BULK AT MOST 1048576: true; the input reads as it did. -/
def fnExactStateDiffUptoRow : OpenClaim := { program := "ytjijknajgamdaaa", sum := "2bd58475073a82e6dd19622b09747875f962d44f9860125d23c8a923724ed2ba", func := "loop.example/g00683/laws.FnExactStateDiff", spec := "fnExactStateDiff", unfollowed := true, recurses := true, apart := false, narrowed := true }
def FnExactStateDiffUptoSaid : Prop := fnExactStateDiffUptoRow.holds Try.pinned (OpenSpec.upto fnExactStateDiffSpec)

end Rows
end Go.Proofs.Ytjijknajgamdaaa
