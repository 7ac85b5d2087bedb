/- The program's FormatNamed and the reference's FormatNamed give the same number at every text: no condition. -/
import Derived.Test.YtopiinnggjcbnaaPFnExactFormatNamedx1
namespace Go.Proofs.Ytopiinnggjcbnaa.Pure
open Go.RowKit Go.Proofs.Ytopiinnggjcbnaa.PFnExactFormatNamed Go.Proofs.YtopiinnggjcbnaaW.PrintWords Go.Proofs.YtopiinnggjcbnaaW.PrintLast

theorem same (a0 : ByteArray) : ∃ n, spec_FormatNamed.f 11 a0 = some n ∧ impl_FormatNamed.f 11 a0 = some n := by
  unfold spec_FormatNamed.f impl_FormatNamed.f spec_l27Names.f impl_formats.f slices_Index_string_string.f
  simp only [Option.bind_some, spec_FormatNamed.l0, slices_Index_string_string.l0, List.length_cons, List.length_nil, rdOf, wrap64]
  simp (config := { decide := false }) [eq_comm (a := a0.toList)]
  repeat' (split <;> try (exact ⟨_, rfl, rfl⟩))

theorem FnExactFormatNamed : laws_FnExactFormatNamed.Pure := by
  intro a0 _
  refine ⟨11, ?_⟩
  obtain ⟨n, h1, h2⟩ := same a0
  unfold laws_FnExactFormatNamed.f
  rw [h1, h2]
  simp

end Go.Proofs.Ytopiinnggjcbnaa.Pure
