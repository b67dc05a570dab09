-- Printed by wip/myprint.py over the kit's print, in this session's own call.
import Derived.Test.YtcbfopepfhfaoaaLemOpens
import Derived.KernelRfl
namespace Go.Proofs.Ytcbfopepfhfaoaa.Print
open Go.RowKit Go.Proofs.YtcbfopepfhfaoaaW.PrintWords Go.Proofs.YtcbfopepfhfaoaaW.PrintLast
theorem opn2 : Opens Try.prog (Kd.int .i64) 2 (fun n_ : Int => (Lit.int .i64 n_).wf = true) := opens_int Try.underlying2 (by kernel_rfl)
def ok49 (x : S49) : Prop := (fun n_ : Int => (Lit.int .i64 n_).wf = true) x.f0 ∧ (fun n_ : Int => (Lit.int .i64 n_).wf = true) x.f1 ∧ (fun n_ : Int => (Lit.int .i64 n_).wf = true) x.f2
set_option maxRecDepth 100000 in
theorem opn49 : Opens Try.prog k49 49 ok49 := by
  refine ⟨by kernel_rfl, fun H enc W base spare held fuel cs x h => ?_⟩
  obtain ⟨hl, hf⟩ := struct_open Try.underlying49 h
  have hl2 : cs.length = 3 := hl.trans (by kernel_rfl)
  match cs, hl2 with
  | [c0, c1, c2], _ =>
    obtain ⟨n0, y0, h0⟩ := hf 0 _ rfl
    have e0 : Try.prog.cellsOf 2 = 1 := by kernel_rfl
    have h0 : DataW.trod enc Try.prog W base spare held n0 2 (([c0, c1, c2].drop 0).take (Try.prog.cellsOf 2)) = some y0 := h0
    rw [e0] at h0
    obtain ⟨x0, k0, o0⟩ := opn2.2 H enc W base spare held n0 [c0] y0 h0
    obtain ⟨n1, y1, h1⟩ := hf 1 _ rfl
    have e1 : Try.prog.cellsOf 2 = 1 := by kernel_rfl
    have h1 : DataW.trod enc Try.prog W base spare held n1 2 (([c0, c1, c2].drop 1).take (Try.prog.cellsOf 2)) = some y1 := h1
    rw [e1] at h1
    obtain ⟨x1, k1, o1⟩ := opn2.2 H enc W base spare held n1 [c1] y1 h1
    obtain ⟨n2, y2, h2⟩ := hf 2 _ rfl
    have e2 : Try.prog.cellsOf 2 = 1 := by kernel_rfl
    have h2 : DataW.trod enc Try.prog W base spare held n2 2 (([c0, c1, c2].drop 2).take (Try.prog.cellsOf 2)) = some y2 := h2
    rw [e2] at h2
    obtain ⟨x2, k2, o2⟩ := opn2.2 H enc W base spare held n2 [c2] y2 h2
    exact ⟨⟨x0, x1, x2⟩, ⟨[c0], [c1, c2], rfl, k0, ⟨[c1], [c2], rfl, k1, k2⟩⟩, ⟨o0, o1, o2⟩⟩
theorem opn22 : Opens Try.prog (Kd.slice 49 k49) 22 (okList ok49) := opens_slice Try.underlying22 (by kernel_rfl) opn49
end Go.Proofs.Ytcbfopepfhfaoaa.Print
