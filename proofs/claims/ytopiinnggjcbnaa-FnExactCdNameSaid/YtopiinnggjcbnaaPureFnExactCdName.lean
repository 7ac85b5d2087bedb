/- The program's CdName and the reference's CdName give the same text at every code: no condition. -/
import Derived.Test.YtopiinnggjcbnaaPFnExactCdNamex1
namespace Go.Proofs.Ytopiinnggjcbnaa.Pure
open Go.RowKit Go.Proofs.Ytopiinnggjcbnaa.PFnExactCdName Go.Proofs.YtopiinnggjcbnaaW.PrintWords Go.Proofs.YtopiinnggjcbnaaW.PrintLast

theorem FnExactCdName : laws_FnExactCdName.Pure := by
  intro a0 _
  unfold laws_FnExactCdName.f spec_CdName.f impl_CdName.f spec_l01In.f impl_within.f
  by_cases h0 : 0 ≤ a0
  · by_cases h1 : a0 ≤ 13
    · have h2 : a0 < 14 := by omega
      simp [h0, h1, h2]
    · simp [h0, h1]
  · simp [h0]

end Go.Proofs.Ytopiinnggjcbnaa.Pure
