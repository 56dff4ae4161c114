/- The chapter's examples: which table is kept, what leads from one to another, where changes lead, and what is refused. -/
import Derived.Test.YtojedfmmijglnaaPSpreadKnownx4
namespace Go.Proofs.Ytojedfmmijglnaa.Pure
open Go.RowKit Go.Proofs.Ytojedfmmijglnaa.PSpreadKnown Go.Proofs.YtojedfmmijglnaaW.PrintWords Go.Proofs.YtojedfmmijglnaaW.PrintLast

theorem SpreadKnown : meterlaw18_SpreadKnown.Pure := ⟨60, by decide +kernel⟩

end Go.Proofs.Ytojedfmmijglnaa.Pure
