-- Printed by wip/myprint.py over the kit's print, in this session's own call.
import Derived.Test.YtahkcifbclloiaaDoorLemOpens
import Derived.KernelRfl
namespace Go.Proofs.YtahkcifbclloiaaDoor.Print
open Go.RowKit Go.Proofs.YtahkcifbclloiaaDoorW.PrintWords Go.Proofs.YtahkcifbclloiaaDoorW.PrintLast
theorem opn2 : Opens Tryd.prog (Kd.int .i64) 2 (fun n_ : Int => (Lit.int .i64 n_).wf = true) := opens_int Tryd.underlying2 (by kernel_rfl)
theorem opn9 : Opens Tryd.prog Kd.string 9 (fun s_ : ByteArray => s_.size ≤ 9223372036854775807) := opens_string Tryd.underlying9 (by kernel_rfl)
def ok48 (x : S48) : Prop := (fun n_ : Int => (Lit.int .i64 n_).wf = true) x.f0 ∧ (fun n_ : Int => (Lit.int .i64 n_).wf = true) x.f1 ∧ (fun n_ : Int => (Lit.int .i64 n_).wf = true) x.f2
set_option maxRecDepth 100000 in
theorem opn48 : Opens Tryd.prog k48 48 ok48 := by
  refine ⟨by kernel_rfl, fun H enc W base spare held fuel cs x h => ?_⟩
  obtain ⟨hl, hf⟩ := struct_open Tryd.underlying48 h
  have hl2 : cs.length = 3 := hl.trans (by kernel_rfl)
  match cs, hl2 with
  | [c0, c1, c2], _ =>
    obtain ⟨n0, y0, h0⟩ := hf 0 _ rfl
    have e0 : Tryd.prog.cellsOf 2 = 1 := by kernel_rfl
    have h0 : DataW.trod enc Tryd.prog W base spare held n0 2 (([c0, c1, c2].drop 0).take (Tryd.prog.cellsOf 2)) = some y0 := h0
    rw [e0] at h0
    obtain ⟨x0, k0, o0⟩ := opn2.2 H enc W base spare held n0 [c0] y0 h0
    obtain ⟨n1, y1, h1⟩ := hf 1 _ rfl
    have e1 : Tryd.prog.cellsOf 2 = 1 := by kernel_rfl
    have h1 : DataW.trod enc Tryd.prog W base spare held n1 2 (([c0, c1, c2].drop 1).take (Tryd.prog.cellsOf 2)) = some y1 := h1
    rw [e1] at h1
    obtain ⟨x1, k1, o1⟩ := opn2.2 H enc W base spare held n1 [c1] y1 h1
    obtain ⟨n2, y2, h2⟩ := hf 2 _ rfl
    have e2 : Tryd.prog.cellsOf 2 = 1 := by kernel_rfl
    have h2 : DataW.trod enc Tryd.prog W base spare held n2 2 (([c0, c1, c2].drop 2).take (Tryd.prog.cellsOf 2)) = some y2 := h2
    rw [e2] at h2
    obtain ⟨x2, k2, o2⟩ := opn2.2 H enc W base spare held n2 [c2] y2 h2
    exact ⟨⟨x0, x1, x2⟩, ⟨[c0], [c1, c2], rfl, k0, ⟨[c1], [c2], rfl, k1, k2⟩⟩, ⟨o0, o1, o2⟩⟩
theorem opn22 : Opens Tryd.prog (Kd.slice 48 k48) 22 (okList ok48) := opens_slice Tryd.underlying22 (by kernel_rfl) opn48
end Go.Proofs.YtahkcifbclloiaaDoor.Print
