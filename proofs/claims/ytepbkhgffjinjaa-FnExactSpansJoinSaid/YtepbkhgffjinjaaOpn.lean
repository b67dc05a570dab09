-- Printed by wip/myprint.py over the kit's print, in this session's own call.
import Derived.Test.YtepbkhgffjinjaaLemOpens
import Derived.KernelRfl
namespace Go.Proofs.Ytepbkhgffjinjaa.Print
open Go.RowKit Go.Proofs.YtepbkhgffjinjaaW.PrintWords Go.Proofs.YtepbkhgffjinjaaW.PrintLast
theorem opn2 : Opens Try.prog (Kd.int .i64) 2 (fun n_ : Int => (Lit.int .i64 n_).wf = true) := opens_int Try.underlying2 (by kernel_rfl)
def ok78 (x : S78) : Prop := (fun n_ : Int => (Lit.int .i64 n_).wf = true) x.f0 ∧ (fun n_ : Int => (Lit.int .i64 n_).wf = true) x.f1
set_option maxRecDepth 100000 in
theorem opn78 : Opens Try.prog k78 78 ok78 := by
  refine ⟨by kernel_rfl, fun H enc W base spare held fuel cs x h => ?_⟩
  obtain ⟨hl, hf⟩ := struct_open Try.underlying78 h
  have hl2 : cs.length = 2 := hl.trans (by kernel_rfl)
  match cs, hl2 with
  | [c0, c1], _ =>
    obtain ⟨n0, y0, h0⟩ := hf 0 _ rfl
    have e0 : Try.prog.cellsOf 2 = 1 := by kernel_rfl
    have h0 : DataW.trod enc Try.prog W base spare held n0 2 (([c0, c1].drop 0).take (Try.prog.cellsOf 2)) = some y0 := h0
    rw [e0] at h0
    obtain ⟨x0, k0, o0⟩ := opn2.2 H enc W base spare held n0 [c0] y0 h0
    obtain ⟨n1, y1, h1⟩ := hf 1 _ rfl
    have e1 : Try.prog.cellsOf 2 = 1 := by kernel_rfl
    have h1 : DataW.trod enc Try.prog W base spare held n1 2 (([c0, c1].drop 1).take (Try.prog.cellsOf 2)) = some y1 := h1
    rw [e1] at h1
    obtain ⟨x1, k1, o1⟩ := opn2.2 H enc W base spare held n1 [c1] y1 h1
    exact ⟨⟨x0, x1⟩, ⟨[c0], [c1], rfl, k0, k1⟩, ⟨o0, o1⟩⟩
theorem opn42 : Opens Try.prog (Kd.slice 78 k78) 42 (okList ok78) := opens_slice Try.underlying42 (by kernel_rfl) opn78
end Go.Proofs.Ytepbkhgffjinjaa.Print
