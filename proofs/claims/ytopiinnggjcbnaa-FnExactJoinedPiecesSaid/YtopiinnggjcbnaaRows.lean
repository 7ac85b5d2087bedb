/-
  No cell of these rows narrows 'for every input' (looked for: loops, veiled, ifaces, maps, wideKeys, modest, calm, conditions, laid).
  DERIVED. THE GIVEN ROWS OF THIS SEAT. 10 by the template 'for every input the law returns true; each argument reads behind the call as it read before'; 0 by the template 'total and deterministic' (their statements: YtopiinnggjcbnaaTotals.lean).
  GIVEN WITH THE SEED: the statements are not yours to turn. If you find one false, say at which input.
  Laid BY PROGRAM, IN A SANDBOX (cutbox-rows.mjs): the forced cells as the released guide's own fill.sh prints them over the translation 464f3dd2a6dcc536… (all of the seat's roots in one cut). By AI agents, Wed Nov 11 2026. No macro, syntax, notation, axiom, sorry.
-/
import Derived.Test.YtopiinnggjcbnaaChecked
import GoSem.Claim
import GoSem.ClaimJoined
import GoSem.ClaimMapViews
import Derived.JoinedTies
import Derived.KernelRfl
namespace Go.Proofs.Ytopiinnggjcbnaa
/- THE CELL 'sum', in the pinned program and in every row, IS THE sha256 OF THE DUMP (.gsa) THAT YtopiinnggjcbnaaProg.lean LOADS. Nothing in Lean hashes anything: it is a label: what it is worth is what the hold of that sum in a sandbox is worth. -/
noncomputable def Try.pinned : Pinned := { name := "ytopiinnggjcbnaa", sum := "464f3dd2a6dcc536ef71fb08f6a148d9d986e9d797579925f4c621b72748e920", checked := Try.checked }
namespace Rows
def none {H : Type} : Left H := { results := [], args := [] }

/-- 'laws.FnExactCdName': WHATEVER THE INPUT: true; the input reads as it did. -/
def fnExactCdNameSpec : ChangeSpec := { name := "fnExactCdName", fn := fun _ => fun
  | [d] => { results := [.lit (.bool true)], args := [d] }
  | _ => none }
def fnExactCdNameRow : OpenClaim := { program := "ytopiinnggjcbnaa", sum := "464f3dd2a6dcc536ef71fb08f6a148d9d986e9d797579925f4c621b72748e920", func := "loop.example/g00970/laws.FnExactCdName", spec := "fnExactCdName", apart := false }
def FnExactCdNameSaid : Prop := fnExactCdNameRow.holds Try.pinned (OpenSpec.ofChange fnExactCdNameSpec)

/-- ITS FALSE NEIGHBOUR: 'it returns false'. Refute it at one input. -/
def fnExactCdNameWrong : ChangeSpec := { name := "fnExactCdName", fn := fun _ => fun
  | [d] => { results := [.lit (.bool false)], args := [d] }
  | _ => none }
def FnExactCdNameWrongFalsely : Prop := fnExactCdNameRow.holds Try.pinned (OpenSpec.ofChange fnExactCdNameWrong)

/-- 'laws.FnExactFlipped': WHATEVER THE INPUT: true; the input reads as it did. -/
def fnExactFlippedSpec : ChangeSpec := { name := "fnExactFlipped", fn := fun _ => fun
  | [d1, d2] => { results := [.lit (.bool true)], args := [d1, d2] }
  | _ => none }
def fnExactFlippedRow : OpenClaim := { program := "ytopiinnggjcbnaa", sum := "464f3dd2a6dcc536ef71fb08f6a148d9d986e9d797579925f4c621b72748e920", func := "loop.example/g00970/laws.FnExactFlipped", spec := "fnExactFlipped", apart := false }
def FnExactFlippedSaid : Prop := fnExactFlippedRow.holds Try.pinned (OpenSpec.ofChange fnExactFlippedSpec)

/-- ITS FALSE NEIGHBOUR: 'it returns false'. Refute it at one input. -/
def fnExactFlippedWrong : ChangeSpec := { name := "fnExactFlipped", fn := fun _ => fun
  | [d1, d2] => { results := [.lit (.bool false)], args := [d1, d2] }
  | _ => none }
def FnExactFlippedWrongFalsely : Prop := fnExactFlippedRow.holds Try.pinned (OpenSpec.ofChange fnExactFlippedWrong)

/-- 'laws.FnExactFormatName': WHATEVER THE INPUT: true; the input reads as it did. -/
def fnExactFormatNameSpec : ChangeSpec := { name := "fnExactFormatName", fn := fun _ => fun
  | [d] => { results := [.lit (.bool true)], args := [d] }
  | _ => none }
def fnExactFormatNameRow : OpenClaim := { program := "ytopiinnggjcbnaa", sum := "464f3dd2a6dcc536ef71fb08f6a148d9d986e9d797579925f4c621b72748e920", func := "loop.example/g00970/laws.FnExactFormatName", spec := "fnExactFormatName", apart := false }
def FnExactFormatNameSaid : Prop := fnExactFormatNameRow.holds Try.pinned (OpenSpec.ofChange fnExactFormatNameSpec)

/-- ITS FALSE NEIGHBOUR: 'it returns false'. Refute it at one input. -/
def fnExactFormatNameWrong : ChangeSpec := { name := "fnExactFormatName", fn := fun _ => fun
  | [d] => { results := [.lit (.bool false)], args := [d] }
  | _ => none }
def FnExactFormatNameWrongFalsely : Prop := fnExactFormatNameRow.holds Try.pinned (OpenSpec.ofChange fnExactFormatNameWrong)

/-- 'laws.FnExactFormatNamed': WHATEVER THE INPUT: true; the input reads as it did. -/
def fnExactFormatNamedSpec : ChangeSpec := { name := "fnExactFormatNamed", fn := fun _ => fun
  | [d] => { results := [.lit (.bool true)], args := [d] }
  | _ => none }
def fnExactFormatNamedRow : OpenClaim := { program := "ytopiinnggjcbnaa", sum := "464f3dd2a6dcc536ef71fb08f6a148d9d986e9d797579925f4c621b72748e920", func := "loop.example/g00970/laws.FnExactFormatNamed", spec := "fnExactFormatNamed", apart := false }
def FnExactFormatNamedSaid : Prop := fnExactFormatNamedRow.holds Try.pinned (OpenSpec.ofChange fnExactFormatNamedSpec)

/-- ITS FALSE NEIGHBOUR: 'it returns false'. Refute it at one input. -/
def fnExactFormatNamedWrong : ChangeSpec := { name := "fnExactFormatNamed", fn := fun _ => fun
  | [d] => { results := [.lit (.bool false)], args := [d] }
  | _ => none }
def FnExactFormatNamedWrongFalsely : Prop := fnExactFormatNamedRow.holds Try.pinned (OpenSpec.ofChange fnExactFormatNamedWrong)

/-- 'laws.FnExactFormatList': WHATEVER THE INPUT: true; the input reads as it did. -/
def fnExactFormatListSpec : ChangeSpec := { name := "fnExactFormatList", fn := fun _ => fun
  | [] => { results := [.lit (.bool true)], args := [] }
  | _ => none }
def fnExactFormatListRow : OpenClaim := { program := "ytopiinnggjcbnaa", sum := "464f3dd2a6dcc536ef71fb08f6a148d9d986e9d797579925f4c621b72748e920", func := "loop.example/g00970/laws.FnExactFormatList", spec := "fnExactFormatList", apart := false }
def FnExactFormatListSaid : Prop := fnExactFormatListRow.holds Try.pinned (OpenSpec.ofChange fnExactFormatListSpec)

/-- ITS FALSE NEIGHBOUR: 'it returns false'. Refute it at one input. -/
def fnExactFormatListWrong : ChangeSpec := { name := "fnExactFormatList", fn := fun _ => fun
  | [] => { results := [.lit (.bool false)], args := [] }
  | _ => none }
def FnExactFormatListWrongFalsely : Prop := fnExactFormatListRow.holds Try.pinned (OpenSpec.ofChange fnExactFormatListWrong)

/-- 'laws.FnExactChopped': WHATEVER THE INPUT: true; the input reads as it did. -/
def fnExactChoppedSpec : ChangeSpec := { name := "fnExactChopped", fn := fun _ => fun
  | [d1, d2] => { results := [.lit (.bool true)], args := [d1, d2] }
  | _ => none }
def fnExactChoppedRow : OpenClaim := { program := "ytopiinnggjcbnaa", sum := "464f3dd2a6dcc536ef71fb08f6a148d9d986e9d797579925f4c621b72748e920", func := "loop.example/g00970/laws.FnExactChopped", spec := "fnExactChopped", apart := false }
def FnExactChoppedSaid : Prop := fnExactChoppedRow.holds Try.pinned (OpenSpec.ofChange fnExactChoppedSpec)

/-- ITS FALSE NEIGHBOUR: 'it returns false'. Refute it at one input. -/
def fnExactChoppedWrong : ChangeSpec := { name := "fnExactChopped", fn := fun _ => fun
  | [d1, d2] => { results := [.lit (.bool false)], args := [d1, d2] }
  | _ => none }
def FnExactChoppedWrongFalsely : Prop := fnExactChoppedRow.holds Try.pinned (OpenSpec.ofChange fnExactChoppedWrong)

/-- 'laws.FnExactEarly': WHATEVER THE INPUT: true; the input reads as it did. -/
def fnExactEarlySpec : ChangeSpec := { name := "fnExactEarly", fn := fun _ => fun
  | [d1, d2] => { results := [.lit (.bool true)], args := [d1, d2] }
  | _ => none }
def fnExactEarlyRow : OpenClaim := { program := "ytopiinnggjcbnaa", sum := "464f3dd2a6dcc536ef71fb08f6a148d9d986e9d797579925f4c621b72748e920", func := "loop.example/g00970/laws.FnExactEarly", spec := "fnExactEarly", apart := false }
def FnExactEarlySaid : Prop := fnExactEarlyRow.holds Try.pinned (OpenSpec.ofChange fnExactEarlySpec)

/-- ITS FALSE NEIGHBOUR: 'it returns false'. Refute it at one input. -/
def fnExactEarlyWrong : ChangeSpec := { name := "fnExactEarly", fn := fun _ => fun
  | [d1, d2] => { results := [.lit (.bool false)], args := [d1, d2] }
  | _ => none }
def FnExactEarlyWrongFalsely : Prop := fnExactEarlyRow.holds Try.pinned (OpenSpec.ofChange fnExactEarlyWrong)

/-- 'laws.FnExactJoinedPieces': WHATEVER THE INPUT: true; the input reads as it did. -/
def fnExactJoinedPiecesSpec : ChangeSpec := { name := "fnExactJoinedPieces", fn := fun _ => fun
  | [d] => { results := [.lit (.bool true)], args := [d] }
  | _ => none }
def fnExactJoinedPiecesRow : OpenClaim := { program := "ytopiinnggjcbnaa", sum := "464f3dd2a6dcc536ef71fb08f6a148d9d986e9d797579925f4c621b72748e920", func := "loop.example/g00970/laws.FnExactJoinedPieces", spec := "fnExactJoinedPieces", inPlace := ["internal/abi.NoEscape", "internal/bytealg.MakeNoZero"], apart := false }
def FnExactJoinedPiecesSaid : Prop := fnExactJoinedPiecesRow.holds Try.pinned (OpenSpec.ofChange fnExactJoinedPiecesSpec)

/-- ITS FALSE NEIGHBOUR: 'it returns false'. Refute it at one input. -/
def fnExactJoinedPiecesWrong : ChangeSpec := { name := "fnExactJoinedPieces", fn := fun _ => fun
  | [d] => { results := [.lit (.bool false)], args := [d] }
  | _ => none }
def FnExactJoinedPiecesWrongFalsely : Prop := fnExactJoinedPiecesRow.holds Try.pinned (OpenSpec.ofChange fnExactJoinedPiecesWrong)

/-- 'laws.FnExactCurveIn': WHATEVER THE INPUT: true; the input reads as it did. -/
def fnExactCurveInSpec : ChangeSpec := { name := "fnExactCurveIn", fn := fun _ => fun
  | [d] => { results := [.lit (.bool true)], args := [d] }
  | _ => none }
def fnExactCurveInRow : OpenClaim := { program := "ytopiinnggjcbnaa", sum := "464f3dd2a6dcc536ef71fb08f6a148d9d986e9d797579925f4c621b72748e920", func := "loop.example/g00970/laws.FnExactCurveIn", spec := "fnExactCurveIn", apart := false }
def FnExactCurveInSaid : Prop := fnExactCurveInRow.holds Try.pinned (OpenSpec.ofChange fnExactCurveInSpec)

/-- ITS FALSE NEIGHBOUR: 'it returns false'. Refute it at one input. -/
def fnExactCurveInWrong : ChangeSpec := { name := "fnExactCurveIn", fn := fun _ => fun
  | [d] => { results := [.lit (.bool false)], args := [d] }
  | _ => none }
def FnExactCurveInWrongFalsely : Prop := fnExactCurveInRow.holds Try.pinned (OpenSpec.ofChange fnExactCurveInWrong)

/-- 'laws.FnExactSameArtefact': WHATEVER THE INPUT: true; the input reads as it did. -/
def fnExactSameArtefactSpec : ChangeSpec := { name := "fnExactSameArtefact", fn := fun _ => fun
  | [d1, d2] => { results := [.lit (.bool true)], args := [d1, d2] }
  | _ => none }
def fnExactSameArtefactRow : OpenClaim := { program := "ytopiinnggjcbnaa", sum := "464f3dd2a6dcc536ef71fb08f6a148d9d986e9d797579925f4c621b72748e920", func := "loop.example/g00970/laws.FnExactSameArtefact", spec := "fnExactSameArtefact", unfollowed := true, recurses := true, apart := false }
def FnExactSameArtefactSaid : Prop := fnExactSameArtefactRow.holds Try.pinned (OpenSpec.ofChange fnExactSameArtefactSpec)

/-- ITS FALSE NEIGHBOUR: 'it returns false'. Refute it at one input. -/
def fnExactSameArtefactWrong : ChangeSpec := { name := "fnExactSameArtefact", fn := fun _ => fun
  | [d1, d2] => { results := [.lit (.bool false)], args := [d1, d2] }
  | _ => none }
def FnExactSameArtefactWrongFalsely : Prop := fnExactSameArtefactRow.holds Try.pinned (OpenSpec.ofChange fnExactSameArtefactWrong)

/- THE SECOND FORM. 'bulk': how many values and letters a reading holds, each counted each time it is reached (what is shared counts as often as it is met; a slice's spare places count too). A statement '..UptoSaid' is the law's where the arguments, and the package variables that the reading takes, are together of bulk at most 1048576: NARROWER than '..Said'. Prove '..Said' where nothing that the law and all that it calls make is longer than what came in: it says more and counts as full. Else prove '..UptoSaid'. A law counts once. -/
mutual
def uptoBulk {H : Type} : DataW H → Nat
  | .lit (.string bytes) => bytes.length + 1
  | .lit _ => 1
  | .nil => 1
  | .ptr d => uptoBulk d + 1
  | .slice elems spare => uptoBulkAll elems + uptoBulkAll spare + 1
  | .agg parts => uptoBulkAll parts + 1
  | .iface _ d => uptoBulk d + 1
  | .map entries => uptoBulkEntries entries + 1
  | .held _ => 1
def uptoBulkAll {H : Type} : List (DataW H) → Nat
  | [] => 0
  | d :: r => uptoBulk d + uptoBulkAll r
def uptoBulkEntries {H : Type} : List (Lit × DataW H) → Nat
  | [] => 0
  | x :: r => uptoBulkEntry x + uptoBulkEntries r
def uptoBulkEntry {H : Type} : Lit × DataW H → Nat
  | (.string bytes, d) => bytes.length + uptoBulk d + 1
  | (_, d) => uptoBulk d + 1
 end
def uptoSmall : (H : Type) → List (DataW H) → Bool := fun _ ds => decide (uptoBulkAll ds ≤ 1048576)
def OpenSpec.upto (s : _root_.Go.ChangeSpec) : _root_.Go.OpenSpec := { _root_.Go.OpenSpec.ofChange s with cond := some uptoSmall }

/-- 'laws.FnExactCdName', WHERE WHAT IT READS IS OF BULK AT MOST 1048576: true; the input reads as it did. -/
def fnExactCdNameUptoRow : OpenClaim := { program := "ytopiinnggjcbnaa", sum := "464f3dd2a6dcc536ef71fb08f6a148d9d986e9d797579925f4c621b72748e920", func := "loop.example/g00970/laws.FnExactCdName", spec := "fnExactCdName", apart := false, narrowed := true }
def FnExactCdNameUptoSaid : Prop := fnExactCdNameUptoRow.holds Try.pinned (OpenSpec.upto fnExactCdNameSpec)

/-- 'laws.FnExactFlipped', WHERE WHAT IT READS IS OF BULK AT MOST 1048576: true; the input reads as it did. -/
def fnExactFlippedUptoRow : OpenClaim := { program := "ytopiinnggjcbnaa", sum := "464f3dd2a6dcc536ef71fb08f6a148d9d986e9d797579925f4c621b72748e920", func := "loop.example/g00970/laws.FnExactFlipped", spec := "fnExactFlipped", apart := false, narrowed := true }
def FnExactFlippedUptoSaid : Prop := fnExactFlippedUptoRow.holds Try.pinned (OpenSpec.upto fnExactFlippedSpec)

/-- 'laws.FnExactFormatName', WHERE WHAT IT READS IS OF BULK AT MOST 1048576: true; the input reads as it did. -/
def fnExactFormatNameUptoRow : OpenClaim := { program := "ytopiinnggjcbnaa", sum := "464f3dd2a6dcc536ef71fb08f6a148d9d986e9d797579925f4c621b72748e920", func := "loop.example/g00970/laws.FnExactFormatName", spec := "fnExactFormatName", apart := false, narrowed := true }
def FnExactFormatNameUptoSaid : Prop := fnExactFormatNameUptoRow.holds Try.pinned (OpenSpec.upto fnExactFormatNameSpec)

/-- 'laws.FnExactFormatNamed', WHERE WHAT IT READS IS OF BULK AT MOST 1048576: true; the input reads as it did. -/
def fnExactFormatNamedUptoRow : OpenClaim := { program := "ytopiinnggjcbnaa", sum := "464f3dd2a6dcc536ef71fb08f6a148d9d986e9d797579925f4c621b72748e920", func := "loop.example/g00970/laws.FnExactFormatNamed", spec := "fnExactFormatNamed", apart := false, narrowed := true }
def FnExactFormatNamedUptoSaid : Prop := fnExactFormatNamedUptoRow.holds Try.pinned (OpenSpec.upto fnExactFormatNamedSpec)

/-- 'laws.FnExactFormatList', WHERE WHAT IT READS IS OF BULK AT MOST 1048576: true; the input reads as it did. -/
def fnExactFormatListUptoRow : OpenClaim := { program := "ytopiinnggjcbnaa", sum := "464f3dd2a6dcc536ef71fb08f6a148d9d986e9d797579925f4c621b72748e920", func := "loop.example/g00970/laws.FnExactFormatList", spec := "fnExactFormatList", apart := false, narrowed := true }
def FnExactFormatListUptoSaid : Prop := fnExactFormatListUptoRow.holds Try.pinned (OpenSpec.upto fnExactFormatListSpec)

/-- 'laws.FnExactChopped', WHERE WHAT IT READS IS OF BULK AT MOST 1048576: true; the input reads as it did. -/
def fnExactChoppedUptoRow : OpenClaim := { program := "ytopiinnggjcbnaa", sum := "464f3dd2a6dcc536ef71fb08f6a148d9d986e9d797579925f4c621b72748e920", func := "loop.example/g00970/laws.FnExactChopped", spec := "fnExactChopped", apart := false, narrowed := true }
def FnExactChoppedUptoSaid : Prop := fnExactChoppedUptoRow.holds Try.pinned (OpenSpec.upto fnExactChoppedSpec)

/-- 'laws.FnExactEarly', WHERE WHAT IT READS IS OF BULK AT MOST 1048576: true; the input reads as it did. -/
def fnExactEarlyUptoRow : OpenClaim := { program := "ytopiinnggjcbnaa", sum := "464f3dd2a6dcc536ef71fb08f6a148d9d986e9d797579925f4c621b72748e920", func := "loop.example/g00970/laws.FnExactEarly", spec := "fnExactEarly", apart := false, narrowed := true }
def FnExactEarlyUptoSaid : Prop := fnExactEarlyUptoRow.holds Try.pinned (OpenSpec.upto fnExactEarlySpec)

/-- 'laws.FnExactJoinedPieces', WHERE WHAT IT READS IS OF BULK AT MOST 1048576: true; the input reads as it did. -/
def fnExactJoinedPiecesUptoRow : OpenClaim := { program := "ytopiinnggjcbnaa", sum := "464f3dd2a6dcc536ef71fb08f6a148d9d986e9d797579925f4c621b72748e920", func := "loop.example/g00970/laws.FnExactJoinedPieces", spec := "fnExactJoinedPieces", inPlace := ["internal/abi.NoEscape", "internal/bytealg.MakeNoZero"], apart := false, narrowed := true }
def FnExactJoinedPiecesUptoSaid : Prop := fnExactJoinedPiecesUptoRow.holds Try.pinned (OpenSpec.upto fnExactJoinedPiecesSpec)

/-- 'laws.FnExactCurveIn', WHERE WHAT IT READS IS OF BULK AT MOST 1048576: true; the input reads as it did. -/
def fnExactCurveInUptoRow : OpenClaim := { program := "ytopiinnggjcbnaa", sum := "464f3dd2a6dcc536ef71fb08f6a148d9d986e9d797579925f4c621b72748e920", func := "loop.example/g00970/laws.FnExactCurveIn", spec := "fnExactCurveIn", apart := false, narrowed := true }
def FnExactCurveInUptoSaid : Prop := fnExactCurveInUptoRow.holds Try.pinned (OpenSpec.upto fnExactCurveInSpec)

/-- 'laws.FnExactSameArtefact', WHERE WHAT IT READS IS OF BULK AT MOST 1048576: true; the input reads as it did. -/
def fnExactSameArtefactUptoRow : OpenClaim := { program := "ytopiinnggjcbnaa", sum := "464f3dd2a6dcc536ef71fb08f6a148d9d986e9d797579925f4c621b72748e920", func := "loop.example/g00970/laws.FnExactSameArtefact", spec := "fnExactSameArtefact", unfollowed := true, recurses := true, apart := false, narrowed := true }
def FnExactSameArtefactUptoSaid : Prop := fnExactSameArtefactUptoRow.holds Try.pinned (OpenSpec.upto fnExactSameArtefactSpec)

end Rows
end Go.Proofs.Ytopiinnggjcbnaa
