-- Written by a program of this session's (wip/hrow.py): what the laws' arguments read as.
import Derived.Test.YtjlcggjghlmiaaaPPackWritesx1
import Derived.Test.YtjlcggjghlmiaaaGOpen
namespace Go.Proofs.Ytjlcggjghlmiaaa.PPackWrites
open Go.RowKit Go.Proofs.YtjlcggjghlmiaaaG Go.Proofs.YtjlcggjghlmiaaaW.PrintWords
def Q38 (x : S38) : Prop := ((Lit.int .i64 x.f0).wf = true) ∧ ((Lit.int .u64 x.f1).wf = true) ∧ ((Lit.int .i64 x.f2).wf = true) ∧ ((x.f3).size ≤ 9223372036854775807) ∧ ((Lit.int .u8 x.f4).wf = true) ∧ ((Lit.int .i64 x.f5).wf = true)
theorem open_T38 : Opens Try.prog 38 k38 Q38 := opens_iso (fun x : S38 => (x.f0, x.f1, x.f2, x.f3, x.f4, x.f5)) (fun p => (⟨p.1, p.2.1, p.2.2.1, p.2.2.2.1, p.2.2.2.2.1, p.2.2.2.2.2⟩ : S38)) (fun _ => rfl) (opens_struct Try.underlying38 (by kernel_rfl) (opensF_cons (by rfl) (by kernel_rfl) (opens_int Try.underlying3) (by rfl) (opensF_cons (by rfl) (by kernel_rfl) (opens_int Try.underlying22) (by rfl) (opensF_cons (by rfl) (by kernel_rfl) (opens_int Try.underlying2) (by rfl) (opensF_cons (by rfl) (by kernel_rfl) (opens_string Try.underlying9) (by rfl) (opensF_cons (by rfl) (by kernel_rfl) (opens_int Try.underlying5) (by rfl) (opensF_one (by rfl) (by kernel_rfl) (opens_int Try.underlying3))))))))
end Go.Proofs.Ytjlcggjghlmiaaa.PPackWrites
