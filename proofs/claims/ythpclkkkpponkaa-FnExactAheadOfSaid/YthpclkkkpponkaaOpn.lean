-- Printed by wip/myprint.py over the kit's print, in this session's own call.
import Derived.Test.YthpclkkkpponkaaLemOpens
import Derived.KernelRfl
namespace Go.Proofs.Ythpclkkkpponkaa.Print
open Go.RowKit Go.Proofs.YthpclkkkpponkaaW.PrintWords Go.Proofs.YthpclkkkpponkaaW.PrintLast
theorem opn2 : Opens Try.prog (Kd.int .i64) 2 (fun n_ : Int => (Lit.int .i64 n_).wf = true) := opens_int Try.underlying2 (by kernel_rfl)
theorem opn9 : Opens Try.prog Kd.string 9 (fun s_ : ByteArray => s_.size ≤ 9223372036854775807) := opens_string Try.underlying9 (by kernel_rfl)
theorem opn37 : Opens Try.prog (Kd.slice 2 (Kd.int .i64)) 37 (okList (fun n_ : Int => (Lit.int .i64 n_).wf = true)) := opens_slice Try.underlying37 (by kernel_rfl) opn2
def ok45 (x : S45) : Prop := (fun n_ : Int => (Lit.int .i64 n_).wf = true) x.f0 ∧ (fun n_ : Int => (Lit.int .i64 n_).wf = true) x.f1 ∧ (fun n_ : Int => (Lit.int .i64 n_).wf = true) x.f2 ∧ (fun n_ : Int => (Lit.int .i64 n_).wf = true) x.f3 ∧ (fun n_ : Int => (Lit.int .i64 n_).wf = true) x.f4 ∧ (fun n_ : Int => (Lit.int .i64 n_).wf = true) x.f5 ∧ (fun s_ : ByteArray => s_.size ≤ 9223372036854775807) x.f6 ∧ (okList (fun n_ : Int => (Lit.int .i64 n_).wf = true)) x.f7 ∧ (fun n_ : Int => (Lit.int .i64 n_).wf = true) x.f8
set_option maxRecDepth 100000 in
theorem opn45 : Opens Try.prog k45 45 ok45 := by
  refine ⟨by kernel_rfl, fun H enc W base spare held fuel cs x h => ?_⟩
  obtain ⟨hl, hf⟩ := struct_open Try.underlying45 h
  have hl2 : cs.length = 9 := hl.trans (by kernel_rfl)
  match cs, hl2 with
  | [c0, c1, c2, c3, c4, c5, c6, c7, c8], _ =>
    obtain ⟨n0, y0, h0⟩ := hf 0 _ rfl
    have e0 : Try.prog.cellsOf 2 = 1 := by kernel_rfl
    have h0 : DataW.trod enc Try.prog W base spare held n0 2 (([c0, c1, c2, c3, c4, c5, c6, c7, c8].drop 0).take (Try.prog.cellsOf 2)) = some y0 := h0
    rw [e0] at h0
    obtain ⟨x0, k0, o0⟩ := opn2.2 H enc W base spare held n0 [c0] y0 h0
    obtain ⟨n1, y1, h1⟩ := hf 1 _ rfl
    have e1 : Try.prog.cellsOf 2 = 1 := by kernel_rfl
    have h1 : DataW.trod enc Try.prog W base spare held n1 2 (([c0, c1, c2, c3, c4, c5, c6, c7, c8].drop 1).take (Try.prog.cellsOf 2)) = some y1 := h1
    rw [e1] at h1
    obtain ⟨x1, k1, o1⟩ := opn2.2 H enc W base spare held n1 [c1] y1 h1
    obtain ⟨n2, y2, h2⟩ := hf 2 _ rfl
    have e2 : Try.prog.cellsOf 2 = 1 := by kernel_rfl
    have h2 : DataW.trod enc Try.prog W base spare held n2 2 (([c0, c1, c2, c3, c4, c5, c6, c7, c8].drop 2).take (Try.prog.cellsOf 2)) = some y2 := h2
    rw [e2] at h2
    obtain ⟨x2, k2, o2⟩ := opn2.2 H enc W base spare held n2 [c2] y2 h2
    obtain ⟨n3, y3, h3⟩ := hf 3 _ rfl
    have e3 : Try.prog.cellsOf 2 = 1 := by kernel_rfl
    have h3 : DataW.trod enc Try.prog W base spare held n3 2 (([c0, c1, c2, c3, c4, c5, c6, c7, c8].drop 3).take (Try.prog.cellsOf 2)) = some y3 := h3
    rw [e3] at h3
    obtain ⟨x3, k3, o3⟩ := opn2.2 H enc W base spare held n3 [c3] y3 h3
    obtain ⟨n4, y4, h4⟩ := hf 4 _ rfl
    have e4 : Try.prog.cellsOf 2 = 1 := by kernel_rfl
    have h4 : DataW.trod enc Try.prog W base spare held n4 2 (([c0, c1, c2, c3, c4, c5, c6, c7, c8].drop 4).take (Try.prog.cellsOf 2)) = some y4 := h4
    rw [e4] at h4
    obtain ⟨x4, k4, o4⟩ := opn2.2 H enc W base spare held n4 [c4] y4 h4
    obtain ⟨n5, y5, h5⟩ := hf 5 _ rfl
    have e5 : Try.prog.cellsOf 2 = 1 := by kernel_rfl
    have h5 : DataW.trod enc Try.prog W base spare held n5 2 (([c0, c1, c2, c3, c4, c5, c6, c7, c8].drop 5).take (Try.prog.cellsOf 2)) = some y5 := h5
    rw [e5] at h5
    obtain ⟨x5, k5, o5⟩ := opn2.2 H enc W base spare held n5 [c5] y5 h5
    obtain ⟨n6, y6, h6⟩ := hf 6 _ rfl
    have e6 : Try.prog.cellsOf 9 = 1 := by kernel_rfl
    have h6 : DataW.trod enc Try.prog W base spare held n6 9 (([c0, c1, c2, c3, c4, c5, c6, c7, c8].drop 6).take (Try.prog.cellsOf 9)) = some y6 := h6
    rw [e6] at h6
    obtain ⟨x6, k6, o6⟩ := opn9.2 H enc W base spare held n6 [c6] y6 h6
    obtain ⟨n7, y7, h7⟩ := hf 7 _ rfl
    have e7 : Try.prog.cellsOf 37 = 1 := by kernel_rfl
    have h7 : DataW.trod enc Try.prog W base spare held n7 37 (([c0, c1, c2, c3, c4, c5, c6, c7, c8].drop 7).take (Try.prog.cellsOf 37)) = some y7 := h7
    rw [e7] at h7
    obtain ⟨x7, k7, o7⟩ := opn37.2 H enc W base spare held n7 [c7] y7 h7
    obtain ⟨n8, y8, h8⟩ := hf 8 _ rfl
    have e8 : Try.prog.cellsOf 2 = 1 := by kernel_rfl
    have h8 : DataW.trod enc Try.prog W base spare held n8 2 (([c0, c1, c2, c3, c4, c5, c6, c7, c8].drop 8).take (Try.prog.cellsOf 2)) = some y8 := h8
    rw [e8] at h8
    obtain ⟨x8, k8, o8⟩ := opn2.2 H enc W base spare held n8 [c8] y8 h8
    exact ⟨⟨x0, x1, x2, x3, x4, x5, x6, x7, x8⟩, ⟨[c0], [c1, c2, c3, c4, c5, c6, c7, c8], rfl, k0, ⟨[c1], [c2, c3, c4, c5, c6, c7, c8], rfl, k1, ⟨[c2], [c3, c4, c5, c6, c7, c8], rfl, k2, ⟨[c3], [c4, c5, c6, c7, c8], rfl, k3, ⟨[c4], [c5, c6, c7, c8], rfl, k4, ⟨[c5], [c6, c7, c8], rfl, k5, ⟨[c6], [c7, c8], rfl, k6, ⟨[c7], [c8], rfl, k7, k8⟩⟩⟩⟩⟩⟩⟩⟩, ⟨o0, o1, o2, o3, o4, o5, o6, o7, o8⟩⟩
theorem opn22 : Opens Try.prog (Kd.slice 45 k45) 22 (okList ok45) := opens_slice Try.underlying22 (by kernel_rfl) opn45
end Go.Proofs.Ythpclkkkpponkaa.Print
