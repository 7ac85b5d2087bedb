/- FnExactJoinedPieces: the law returns true for every input, and leaves the input as it was. No condition. -/
import Derived.Test.YtopiinnggjcbnaaRows
import Derived.Test.YtopiinnggjcbnaaVJoinedPieces
namespace Go.Proofs.Ytopiinnggjcbnaa.fnExactJoinedPieces
open Go Go.Vi Go.ChangeShapes Go.WideShapes Go.ChangeAt Go.RowKit
set_option linter.unusedVariables false
theorem own : ownKnob Try.prog.godebug = none := by kernel_rfl
theorem laidOut : laidOutB Try.prog = true := by kernel_rfl
set_option maxRecDepth 100000 in
theorem lifted (os : Os) (started : os.Started) (H : Type) (enc : TypeId × Value → H) :
    ReturnsInHanded {} Try.checked os 10 .any (Rows.fnExactJoinedPiecesSpec.pre6 enc Try.prog Try.f10 Rows.fnExactJoinedPiecesRow.domain false) (Rows.fnExactJoinedPiecesSpec.post enc Try.prog Try.f10 false true false false) := by
  refine returnsInHanded_of_change_sized (C := Try.checked) own started (by kernel_rfl) Try.func10
    (ChangeSpec.witness6 (enc := enc) (C := Try.checked) false ⟨#[], #[.slice none 0 0], []⟩ 8 (by kernel_rfl) (by kernel_rfl) (by kernel_rfl) (by kernel_rfl)) ?_
  intro W base args ds gs before hval0 hW hcnd hsz0 _
  have hsz : (DataW.weightsEach Try.prog (Try.f10.params.toList ++ Rows.fnExactJoinedPiecesSpec.plain.varTypes Try.prog) (ds ++ gs)).all (· ≤ reachBytes) = true := hsz0
  have hval : ∀ (j : Nat) t v, Try.f10.params[j]? = some t → args[j]? = some v → Value.okWide Try.prog W .any base t v := hval0
  have hW' := hW
  obtain ⟨p, q, hA0, hV, rfl, hfz, hnd⟩ := hW
  have hA : DataW.TrodAll enc Try.prog W 0 (fun _ => true) true Try.f10.params.toList args.toList ds p := hA0
  rw [Try.params10] at hA hval hsz
  obtain ⟨v0, vs0, d0, ds0, p0, q0, hargs0, rfl, rfl, h0, r0⟩ := trodAll_cons hA
  obtain ⟨rfl, rfl, rfl⟩ := trodAll_nil r0
  obtain rfl : args = #[v0] := by cases args; simp_all
  obtain ⟨rfl, rfl⟩ := trodVars_none hV
  obtain ⟨x0, y0, z0⟩ := open_any (ty := (.sl .str)) 14 (by kernel_rfl) (hval 0 28 v0 rfl rfl) h0
  have hsz1 : (DataW.weightsEach Try.prog [28] [d0]).all (· ≤ reachBytes) = true := hsz
  simp only [DataW.weightsEach, List.all_append, Bool.and_eq_true] at hsz1
  obtain ⟨w0, _⟩ := hsz1
  have hb : ∀ a ∈ (Go.Proofs.Ytopiinnggjcbnaa.VJoinedPieces.c6).as, ∃ t, a = Ak.dat t := by
    intro a ha
    simp only [Go.Proofs.Ytopiinnggjcbnaa.VJoinedPieces.c6, List.mem_cons, List.not_mem_nil, or_false] at ha
    rcases ha with rfl <;> exact ⟨_, rfl⟩
  have hc := XOk.calls (W := W) (us := [v0]) (x := (x0, ())) (b := true) Go.Proofs.Ytopiinnggjcbnaa.VJoinedPieces.ok6 hb (fun F => .cons (y0 F) (.nil)) (by show (fit (.sl .str) x0) = true; simp only [z0 w0, Bool.and_self]) rfl (enter_run Try.func10 rfl (by kernel_rfl) _ W)
  refine hc.mono fun e W' ⟨he, bel⟩ => ?_
  subst he
  exact ⟨_, rfl, _, _, _, [], _, [], hW', trodAll_mk1 (shut_bool Try.underlying4 _), (trodAll_cons_mk (Below.trod laidOut (by kernel_rfl) (of_decide_eq_true (by kernel_rfl)) h0 bel (fun x hx => hW'.lt x (by simp [hx]))) trodAll_mk0), rfl, bel.frame _, fun h => by cases h⟩
theorem over : Rows.fnExactJoinedPiecesRow.holds Try.pinned (OpenSpec.ofChange Rows.fnExactJoinedPiecesSpec) :=
  OpenClaim.holds_of_wide 10 Try.f10 rfl rfl rfl rfl rfl rfl rfl ⟨rfl, rfl, rfl, rfl, rfl⟩ rfl rfl rfl rfl rfl (by kernel_rfl) Try.func10 (by kernel_rfl)
    (of_decide_eq_true (by kernel_rfl)) (by unfold Func.isWrapper; first | (rw [if_pos (by decide +kernel)]; kernel_rfl) | (rw [if_neg (by decide +kernel)]; exact ⟨rfl, rfl⟩))
    (fun os started H enc _ => lifted os started H enc)
theorem proved : Rows.FnExactJoinedPiecesSaid := over
#print axioms proved
end Go.Proofs.Ytopiinnggjcbnaa.fnExactJoinedPieces
namespace Go.Proofs.Ytopiinnggjcbnaa
/-- The row, under a short name, for the claim. -/
theorem fnExactJoinedPieces_holds : Rows.FnExactJoinedPiecesSaid := fnExactJoinedPieces.proved
end Go.Proofs.Ytopiinnggjcbnaa
