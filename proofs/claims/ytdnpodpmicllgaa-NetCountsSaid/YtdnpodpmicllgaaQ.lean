-- Written by a program of this session's (wip/hrow.py): what the laws' arguments read as.
import Derived.Test.YtdnpodpmicllgaaPNetPlaysx1
import Derived.Test.YtdnpodpmicllgaaGOpen
namespace Go.Proofs.Ytdnpodpmicllgaa.PNetPlays
open Go.RowKit Go.Proofs.YtdnpodpmicllgaaG Go.Proofs.YtdnpodpmicllgaaW.PrintWords
def Q25 (x : S25) : Prop := ((Lit.int .i64 x.f0).wf = true) ∧ ((Lit.int .i64 x.f1).wf = true) ∧ ((x.f2).size ≤ 9223372036854775807)
def Q40 (x : S40) : Prop := ((Lit.int .i64 x.f0).wf = true) ∧ (Q25 x.f1) ∧ ((Lit.int .i64 x.f2).wf = true) ∧ ((Lit.int .u8 x.f3).wf = true)
theorem open_T25 : Opens Try.prog 25 k25 Q25 := opens_iso (fun x : S25 => (x.f0, x.f1, x.f2)) (fun p => (⟨p.1, p.2.1, p.2.2⟩ : S25)) (fun _ => rfl) (opens_struct Try.underlying25 (by kernel_rfl) (opensF_cons (by rfl) (by kernel_rfl) (opens_int Try.underlying3) (by rfl) (opensF_cons (by rfl) (by kernel_rfl) (opens_int Try.underlying3) (by rfl) (opensF_one (by rfl) (by kernel_rfl) (opens_string Try.underlying9)))))
theorem open_T40 : Opens Try.prog 40 k40 Q40 := opens_iso (fun x : S40 => (x.f0, x.f1, x.f2, x.f3)) (fun p => (⟨p.1, p.2.1, p.2.2.1, p.2.2.2⟩ : S40)) (fun _ => rfl) (opens_struct Try.underlying40 (by kernel_rfl) (opensF_cons (by rfl) (by kernel_rfl) (opens_int Try.underlying3) (by rfl) (opensF_cons (by rfl) (by kernel_rfl) open_T25 (by rfl) (opensF_cons (by rfl) (by kernel_rfl) (opens_int Try.underlying3) (by rfl) (opensF_one (by rfl) (by kernel_rfl) (opens_int Try.underlying5))))))
end Go.Proofs.Ytdnpodpmicllgaa.PNetPlays
