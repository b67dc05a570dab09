-- Printed by wip/myprint.py over the kit's print, in this session's own call.
import Derived.Test.YtebpaheghobpmaaDoorLemOpens
import Derived.KernelRfl
namespace Go.Proofs.YtebpaheghobpmaaDoor.Print
open Go.RowKit Go.Proofs.YtebpaheghobpmaaDoorW.PrintWords Go.Proofs.YtebpaheghobpmaaDoorW.PrintLast
theorem opn9 : Opens Tryd.prog Kd.string 9 (fun s_ : ByteArray => s_.size ≤ 9223372036854775807) := opens_string Tryd.underlying9 (by kernel_rfl)
theorem opn2 : Opens Tryd.prog (Kd.int .i64) 2 (fun n_ : Int => (Lit.int .i64 n_).wf = true) := opens_int Tryd.underlying2 (by kernel_rfl)
theorem opn22 : Opens Tryd.prog (Kd.slice 2 (Kd.int .i64)) 22 (okList (fun n_ : Int => (Lit.int .i64 n_).wf = true)) := opens_slice Tryd.underlying22 (by kernel_rfl) opn2
end Go.Proofs.YtebpaheghobpmaaDoor.Print
