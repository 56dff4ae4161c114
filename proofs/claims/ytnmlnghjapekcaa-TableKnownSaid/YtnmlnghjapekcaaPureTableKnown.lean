/- The chapter's examples of tables and moves, and the limits. -/
import Derived.Test.YtnmlnghjapekcaaPTableKnownx3
namespace Go.Proofs.Ytnmlnghjapekcaa.Pure
open Go.RowKit Go.Proofs.Ytnmlnghjapekcaa.PTableKnown Go.Proofs.YtnmlnghjapekcaaW.PrintWords Go.Proofs.YtnmlnghjapekcaaW.PrintLast

theorem TableKnown : meterlaw17_TableKnown.Pure := ⟨20, by decide +kernel⟩

end Go.Proofs.Ytnmlnghjapekcaa.Pure
