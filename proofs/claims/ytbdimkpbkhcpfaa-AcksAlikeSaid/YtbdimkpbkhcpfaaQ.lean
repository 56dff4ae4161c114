-- Written by a program of this session's (wip/hrow.py): what the laws' arguments read as.
import Derived.Test.YtbdimkpbkhcpfaaPAcksPlaysx3
import Derived.Test.YtbdimkpbkhcpfaaGOpen
namespace Go.Proofs.Ytbdimkpbkhcpfaa.PAcksPlays
open Go.RowKit Go.Proofs.YtbdimkpbkhcpfaaG Go.Proofs.YtbdimkpbkhcpfaaW.PrintWords
def Q30 (x : S30) : Prop := ((Lit.int .i64 x.f0).wf = true) ∧ ((Lit.int .i64 x.f1).wf = true) ∧ (((x.f2).length ≤ 9223372036854775807 ∧ ∀ x0_ ∈ x.f2, (Lit.int .i64 x0_).wf = true))
theorem open_T30 : Opens Try.prog 30 k30 Q30 := opens_iso (fun x : S30 => (x.f0, x.f1, x.f2)) (fun p => (⟨p.1, p.2.1, p.2.2⟩ : S30)) (fun _ => rfl) (opens_struct Try.underlying30 (by kernel_rfl) (opensF_cons (by rfl) (by kernel_rfl) (opens_int Try.underlying3) (by rfl) (opensF_cons (by rfl) (by kernel_rfl) (opens_int Try.underlying3) (by rfl) (opensF_one (by rfl) (by kernel_rfl) (opens_slice Try.underlying28 (by kernel_rfl) (opens_int Try.underlying3))))))
end Go.Proofs.Ytbdimkpbkhcpfaa.PAcksPlays
