-- Printed by wip/myprint.py over the kit's print, in this session's own call.
import Derived.Test.YtjijknajgamdaaaLemOpens
import Derived.KernelRfl
namespace Go.Proofs.Ytjijknajgamdaaa.Print
open Go.RowKit Go.Proofs.YtjijknajgamdaaaW.PrintWords Go.Proofs.YtjijknajgamdaaaW.PrintLast
theorem opn2 : Opens Try.prog (Kd.int .i64) 2 (fun n_ : Int => (Lit.int .i64 n_).wf = true) := opens_int Try.underlying2 (by kernel_rfl)
theorem opn9 : Opens Try.prog Kd.string 9 (fun s_ : ByteArray => s_.size ≤ 9223372036854775807) := opens_string Try.underlying9 (by kernel_rfl)
theorem opn22 : Opens Try.prog (Kd.slice 2 (Kd.int .i64)) 22 (okList (fun n_ : Int => (Lit.int .i64 n_).wf = true)) := opens_slice Try.underlying22 (by kernel_rfl) opn2
end Go.Proofs.Ytjijknajgamdaaa.Print
