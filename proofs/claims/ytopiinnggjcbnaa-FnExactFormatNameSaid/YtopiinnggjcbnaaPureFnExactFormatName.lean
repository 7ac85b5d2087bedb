/- The program's FormatName and the reference's FormatName give the same text at every number: no condition. -/
import Derived.Test.YtopiinnggjcbnaaPFnExactFormatNamex1
namespace Go.Proofs.Ytopiinnggjcbnaa.Pure
open Go.RowKit Go.Proofs.Ytopiinnggjcbnaa.PFnExactFormatName Go.Proofs.YtopiinnggjcbnaaW.PrintWords Go.Proofs.YtopiinnggjcbnaaW.PrintLast

theorem FnExactFormatName : laws_FnExactFormatName.Pure := by
  intro a0 _
  unfold laws_FnExactFormatName.f
  by_cases h : 1 ≤ a0 ∧ a0 ≤ 9
  · obtain ⟨h0, h1⟩ := h
    obtain rfl | rfl | rfl | rfl | rfl | rfl | rfl | rfl | rfl : a0 = 1 ∨ a0 = 2 ∨ a0 = 3 ∨ a0 = 4 ∨ a0 = 5 ∨ a0 = 6 ∨ a0 = 7 ∨ a0 = 8 ∨ a0 = 9 := by omega
    all_goals decide +kernel
  · unfold spec_FormatName.f impl_FormatName.f spec_l01In.f impl_within.f
    by_cases h0 : 1 ≤ a0
    · have h1 : ¬ a0 ≤ 9 := fun h1 => h ⟨h0, h1⟩
      simp [h0, h1]
    · simp [h0]

end Go.Proofs.Ytopiinnggjcbnaa.Pure
