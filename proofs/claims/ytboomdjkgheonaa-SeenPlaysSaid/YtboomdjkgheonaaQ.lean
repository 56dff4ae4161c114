-- Written by a program of this session's (wip/hrow.py): what the laws' arguments read as.
import Derived.Test.YtboomdjkgheonaaPSeenPlaysx2
import Derived.Test.YtboomdjkgheonaaGOpen
namespace Go.Proofs.Ytboomdjkgheonaa.PSeenPlays
open Go.RowKit Go.Proofs.YtboomdjkgheonaaG Go.Proofs.YtboomdjkgheonaaW.PrintWords
def Q71 (x : S71) : Prop := ((Lit.int .i64 x.f0).wf = true) ∧ ((Lit.int .i64 x.f1).wf = true) ∧ ((Lit.int .i64 x.f2).wf = true)
def Q39 (x : S39) : Prop := (True) ∧ ((Lit.int .i64 x.f1).wf = true) ∧ ((Lit.int .i64 x.f2).wf = true) ∧ ((Lit.int .i64 x.f3).wf = true) ∧ ((Lit.int .i64 x.f4).wf = true)
theorem open_T71 : Opens Try.prog 71 k71 Q71 := opens_iso (fun x : S71 => (x.f0, x.f1, x.f2)) (fun p => (⟨p.1, p.2.1, p.2.2⟩ : S71)) (fun _ => rfl) (opens_struct Try.underlying71 (by kernel_rfl) (opensF_cons (by rfl) (by kernel_rfl) (opens_int Try.underlying3) (by rfl) (opensF_cons (by rfl) (by kernel_rfl) (opens_int Try.underlying3) (by rfl) (opensF_one (by rfl) (by kernel_rfl) (opens_int Try.underlying3)))))
theorem open_T39 : Opens Try.prog 39 k39 Q39 := opens_iso (fun x : S39 => (x.f0, x.f1, x.f2, x.f3, x.f4)) (fun p => (⟨p.1, p.2.1, p.2.2.1, p.2.2.2.1, p.2.2.2.2⟩ : S39)) (fun _ => rfl) (opens_struct Try.underlying39 (by kernel_rfl) (opensF_cons (by rfl) (by kernel_rfl) (opens_bool Try.underlying4) (by rfl) (opensF_cons (by rfl) (by kernel_rfl) (opens_int Try.underlying3) (by rfl) (opensF_cons (by rfl) (by kernel_rfl) (opens_int Try.underlying3) (by rfl) (opensF_cons (by rfl) (by kernel_rfl) (opens_int Try.underlying3) (by rfl) (opensF_one (by rfl) (by kernel_rfl) (opens_int Try.underlying3)))))))
end Go.Proofs.Ytboomdjkgheonaa.PSeenPlays
