-- Written by a program of this session's (wip/hrow.py): what the laws' arguments read as.
import Derived.Test.YtapkoiaeghjpdaaPScriptWritesx2
import Derived.Test.YtapkoiaeghjpdaaGOpen
namespace Go.Proofs.Ytapkoiaeghjpdaa.PScriptWrites
open Go.RowKit Go.Proofs.YtapkoiaeghjpdaaG Go.Proofs.YtapkoiaeghjpdaaW.PrintWords
def Q33 (x : S33) : Prop := ((Lit.int .u8 x.f0).wf = true) ∧ ((Lit.int .i64 x.f1).wf = true) ∧ ((Lit.int .i64 x.f2).wf = true) ∧ ((x.f3).size ≤ 9223372036854775807) ∧ ((Lit.int .i64 x.f4).wf = true) ∧ ((Lit.int .i64 x.f5).wf = true)
theorem open_T33 : Opens Try.prog 33 k33 Q33 := opens_iso (fun x : S33 => (x.f0, x.f1, x.f2, x.f3, x.f4, x.f5)) (fun p => (⟨p.1, p.2.1, p.2.2.1, p.2.2.2.1, p.2.2.2.2.1, p.2.2.2.2.2⟩ : S33)) (fun _ => rfl) (opens_struct Try.underlying33 (by kernel_rfl) (opensF_cons (by rfl) (by kernel_rfl) (opens_int Try.underlying5) (by rfl) (opensF_cons (by rfl) (by kernel_rfl) (opens_int Try.underlying3) (by rfl) (opensF_cons (by rfl) (by kernel_rfl) (opens_int Try.underlying3) (by rfl) (opensF_cons (by rfl) (by kernel_rfl) (opens_string Try.underlying9) (by rfl) (opensF_cons (by rfl) (by kernel_rfl) (opens_int Try.underlying2) (by rfl) (opensF_one (by rfl) (by kernel_rfl) (opens_int Try.underlying2))))))))
end Go.Proofs.Ytapkoiaeghjpdaa.PScriptWrites
