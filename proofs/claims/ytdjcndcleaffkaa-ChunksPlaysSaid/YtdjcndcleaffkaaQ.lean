-- Written by a program of this session's (wip/hrow.py): what the laws' arguments read as.
import Derived.Test.YtdjcndcleaffkaaPChunksPlaysx3
import Derived.Test.YtdjcndcleaffkaaGOpen
namespace Go.Proofs.Ytdjcndcleaffkaa.PChunksPlays
open Go.RowKit Go.Proofs.YtdjcndcleaffkaaG Go.Proofs.YtdjcndcleaffkaaW.PrintWords
def Q40 (x : S40) : Prop := ((Lit.int .i64 x.f0).wf = true) ∧ ((Lit.int .i64 x.f1).wf = true) ∧ ((x.f2).size ≤ 9223372036854775807) ∧ (True)
theorem open_T40 : Opens Try.prog 40 k40 Q40 := opens_iso (fun x : S40 => (x.f0, x.f1, x.f2, x.f3)) (fun p => (⟨p.1, p.2.1, p.2.2.1, p.2.2.2⟩ : S40)) (fun _ => rfl) (opens_struct Try.underlying40 (by kernel_rfl) (opensF_cons (by rfl) (by kernel_rfl) (opens_int Try.underlying3) (by rfl) (opensF_cons (by rfl) (by kernel_rfl) (opens_int Try.underlying3) (by rfl) (opensF_cons (by rfl) (by kernel_rfl) (opens_string Try.underlying9) (by rfl) (opensF_one (by rfl) (by kernel_rfl) (opens_bool Try.underlying4))))))
end Go.Proofs.Ytdjcndcleaffkaa.PChunksPlays
