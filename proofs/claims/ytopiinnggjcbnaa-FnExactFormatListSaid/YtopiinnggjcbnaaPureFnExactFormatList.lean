/- The program's FormatList and the reference's FormatList give the same nine texts, and each call gives memory of its own: no condition. -/
import Derived.Test.YtopiinnggjcbnaaPFnExactFormatListx2
namespace Go.Proofs.Ytopiinnggjcbnaa.Pure
open Go.RowKit Go.Proofs.Ytopiinnggjcbnaa.PFnExactFormatList Go.Proofs.YtopiinnggjcbnaaW.PrintWords Go.Proofs.YtopiinnggjcbnaaW.PrintLast

theorem FnExactFormatList : laws_FnExactFormatList.Pure := ⟨30, by decide +kernel⟩

end Go.Proofs.Ytopiinnggjcbnaa.Pure
