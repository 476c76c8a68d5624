/-
  No cell of these rows narrows 'for every input' (looked for: loops, veiled, ifaces, maps, wideKeys, modest, calm, conditions, laid).
  DERIVED. THE GIVEN ROWS OF THIS SEAT. 11 by the template 'for every input the law returns true; each argument reads behind the call as it read before'; 0 by the template 'total and deterministic' (their statements: YtnbobpbdclbjlaaTotals.lean).
  GIVEN WITH THE SEED: the statements are not yours to turn. If you find one false, say at which input.
  Laid BY PROGRAM, IN A SANDBOX (cutbox-rows.mjs): the forced cells as the released guide's own fill.sh prints them over the translation 00634640c4410eaa… (all of the seat's roots in one cut). By AI agents, Wed Nov 11 2026. No macro, syntax, notation, axiom, sorry.
-/
import Derived.Test.YtnbobpbdclbjlaaChecked
import GoSem.Claim
import GoSem.ClaimJoined
import GoSem.ClaimMapViews
import Derived.JoinedTies
import Derived.KernelRfl
namespace Go.Proofs.Ytnbobpbdclbjlaa
/- THE CELL 'sum', in the pinned program and in every row, IS THE sha256 OF THE DUMP (.gsa) THAT YtnbobpbdclbjlaaProg.lean LOADS. Nothing in Lean hashes anything: it is a label: what it is worth is what the hold of that sum in a sandbox is worth. -/
noncomputable def Try.pinned : Pinned := { name := "ytnbobpbdclbjlaa", sum := "00634640c4410eaa4881d5ce412f9aad39d9a034fde26b94d10ca9e336dc7407", checked := Try.checked }
namespace Rows
def none {H : Type} : Left H := { results := [], args := [] }

/-- 'laws.FnExactDotsInTile': WHATEVER THE INPUT: true; the input reads as it did. -/
def fnExactDotsInTileSpec : ChangeSpec := { name := "fnExactDotsInTile", fn := fun _ => fun
  | [d] => { results := [.lit (.bool true)], args := [d] }
  | _ => none }
def fnExactDotsInTileRow : OpenClaim := { program := "ytnbobpbdclbjlaa", sum := "00634640c4410eaa4881d5ce412f9aad39d9a034fde26b94d10ca9e336dc7407", func := "loop.example/g00987/laws.FnExactDotsInTile", spec := "fnExactDotsInTile", apart := false }
def FnExactDotsInTileSaid : Prop := fnExactDotsInTileRow.holds Try.pinned (OpenSpec.ofChange fnExactDotsInTileSpec)

/-- ITS FALSE NEIGHBOUR: 'it returns false'. Refute it at one input. -/
def fnExactDotsInTileWrong : ChangeSpec := { name := "fnExactDotsInTile", fn := fun _ => fun
  | [d] => { results := [.lit (.bool false)], args := [d] }
  | _ => none }
def FnExactDotsInTileWrongFalsely : Prop := fnExactDotsInTileRow.holds Try.pinned (OpenSpec.ofChange fnExactDotsInTileWrong)

/-- 'laws.FnExactTurnScreen': WHATEVER THE INPUT: true; the input reads as it did. -/
def fnExactTurnScreenSpec : ChangeSpec := { name := "fnExactTurnScreen", fn := fun _ => fun
  | [d1, d2, d3] => { results := [.lit (.bool true)], args := [d1, d2, d3] }
  | _ => none }
def fnExactTurnScreenRow : OpenClaim := { program := "ytnbobpbdclbjlaa", sum := "00634640c4410eaa4881d5ce412f9aad39d9a034fde26b94d10ca9e336dc7407", func := "loop.example/g00987/laws.FnExactTurnScreen", spec := "fnExactTurnScreen", apart := false }
def FnExactTurnScreenSaid : Prop := fnExactTurnScreenRow.holds Try.pinned (OpenSpec.ofChange fnExactTurnScreenSpec)

/-- ITS FALSE NEIGHBOUR: 'it returns false'. Refute it at one input. -/
def fnExactTurnScreenWrong : ChangeSpec := { name := "fnExactTurnScreen", fn := fun _ => fun
  | [d1, d2, d3] => { results := [.lit (.bool false)], args := [d1, d2, d3] }
  | _ => none }
def FnExactTurnScreenWrongFalsely : Prop := fnExactTurnScreenRow.holds Try.pinned (OpenSpec.ofChange fnExactTurnScreenWrong)

/-- 'laws.FnExactLimitInks': WHATEVER THE INPUT: true; the input reads as it did. -/
def fnExactLimitInksSpec : ChangeSpec := { name := "fnExactLimitInks", fn := fun _ => fun
  | [d1, d2] => { results := [.lit (.bool true)], args := [d1, d2] }
  | _ => none }
def fnExactLimitInksRow : OpenClaim := { program := "ytnbobpbdclbjlaa", sum := "00634640c4410eaa4881d5ce412f9aad39d9a034fde26b94d10ca9e336dc7407", func := "loop.example/g00987/laws.FnExactLimitInks", spec := "fnExactLimitInks", apart := false }
def FnExactLimitInksSaid : Prop := fnExactLimitInksRow.holds Try.pinned (OpenSpec.ofChange fnExactLimitInksSpec)

/-- ITS FALSE NEIGHBOUR: 'it returns false'. Refute it at one input. -/
def fnExactLimitInksWrong : ChangeSpec := { name := "fnExactLimitInks", fn := fun _ => fun
  | [d1, d2] => { results := [.lit (.bool false)], args := [d1, d2] }
  | _ => none }
def FnExactLimitInksWrongFalsely : Prop := fnExactLimitInksRow.holds Try.pinned (OpenSpec.ofChange fnExactLimitInksWrong)

/-- 'laws.FnExactToneAt': WHATEVER THE INPUT: true; the input reads as it did. -/
def fnExactToneAtSpec : ChangeSpec := { name := "fnExactToneAt", fn := fun _ => fun
  | [d1, d2] => { results := [.lit (.bool true)], args := [d1, d2] }
  | _ => none }
def fnExactToneAtRow : OpenClaim := { program := "ytnbobpbdclbjlaa", sum := "00634640c4410eaa4881d5ce412f9aad39d9a034fde26b94d10ca9e336dc7407", func := "loop.example/g00987/laws.FnExactToneAt", spec := "fnExactToneAt", apart := false }
def FnExactToneAtSaid : Prop := fnExactToneAtRow.holds Try.pinned (OpenSpec.ofChange fnExactToneAtSpec)

/-- ITS FALSE NEIGHBOUR: 'it returns false'. Refute it at one input. -/
def fnExactToneAtWrong : ChangeSpec := { name := "fnExactToneAt", fn := fun _ => fun
  | [d1, d2] => { results := [.lit (.bool false)], args := [d1, d2] }
  | _ => none }
def FnExactToneAtWrongFalsely : Prop := fnExactToneAtRow.holds Try.pinned (OpenSpec.ofChange fnExactToneAtWrong)

/-- 'laws.FnDots': WHATEVER THE INPUT: true; the input reads as it did. -/
def fnDotsSpec : ChangeSpec := { name := "fnDots", fn := fun _ => fun
  | [d] => { results := [.lit (.bool true)], args := [d] }
  | _ => none }
def fnDotsRow : OpenClaim := { program := "ytnbobpbdclbjlaa", sum := "00634640c4410eaa4881d5ce412f9aad39d9a034fde26b94d10ca9e336dc7407", func := "loop.example/g00987/laws.FnDots", spec := "fnDots", apart := false }
def FnDotsSaid : Prop := fnDotsRow.holds Try.pinned (OpenSpec.ofChange fnDotsSpec)

/-- ITS FALSE NEIGHBOUR: 'it returns false'. Refute it at one input. -/
def fnDotsWrong : ChangeSpec := { name := "fnDots", fn := fun _ => fun
  | [d] => { results := [.lit (.bool false)], args := [d] }
  | _ => none }
def FnDotsWrongFalsely : Prop := fnDotsRow.holds Try.pinned (OpenSpec.ofChange fnDotsWrong)

/-- 'laws.FnExactScreenRow': WHATEVER THE INPUT: true; the input reads as it did. -/
def fnExactScreenRowSpec : ChangeSpec := { name := "fnExactScreenRow", fn := fun _ => fun
  | [d1, d2] => { results := [.lit (.bool true)], args := [d1, d2] }
  | _ => none }
def fnExactScreenRowRow : OpenClaim := { program := "ytnbobpbdclbjlaa", sum := "00634640c4410eaa4881d5ce412f9aad39d9a034fde26b94d10ca9e336dc7407", func := "loop.example/g00987/laws.FnExactScreenRow", spec := "fnExactScreenRow", apart := false }
def FnExactScreenRowSaid : Prop := fnExactScreenRowRow.holds Try.pinned (OpenSpec.ofChange fnExactScreenRowSpec)

/-- ITS FALSE NEIGHBOUR: 'it returns false'. Refute it at one input. -/
def fnExactScreenRowWrong : ChangeSpec := { name := "fnExactScreenRow", fn := fun _ => fun
  | [d1, d2] => { results := [.lit (.bool false)], args := [d1, d2] }
  | _ => none }
def FnExactScreenRowWrongFalsely : Prop := fnExactScreenRowRow.holds Try.pinned (OpenSpec.ofChange fnExactScreenRowWrong)

/-- 'laws.FnExactBlendCurves': WHATEVER THE INPUT: true; the input reads as it did. -/
def fnExactBlendCurvesSpec : ChangeSpec := { name := "fnExactBlendCurves", fn := fun _ => fun
  | [d1, d2, d3] => { results := [.lit (.bool true)], args := [d1, d2, d3] }
  | _ => none }
def fnExactBlendCurvesRow : OpenClaim := { program := "ytnbobpbdclbjlaa", sum := "00634640c4410eaa4881d5ce412f9aad39d9a034fde26b94d10ca9e336dc7407", func := "loop.example/g00987/laws.FnExactBlendCurves", spec := "fnExactBlendCurves", apart := false }
def FnExactBlendCurvesSaid : Prop := fnExactBlendCurvesRow.holds Try.pinned (OpenSpec.ofChange fnExactBlendCurvesSpec)

/-- ITS FALSE NEIGHBOUR: 'it returns false'. Refute it at one input. -/
def fnExactBlendCurvesWrong : ChangeSpec := { name := "fnExactBlendCurves", fn := fun _ => fun
  | [d1, d2, d3] => { results := [.lit (.bool false)], args := [d1, d2, d3] }
  | _ => none }
def FnExactBlendCurvesWrongFalsely : Prop := fnExactBlendCurvesRow.holds Try.pinned (OpenSpec.ofChange fnExactBlendCurvesWrong)

/-- 'laws.FnInks': WHATEVER THE INPUT: true; the input reads as it did. -/
def fnInksSpec : ChangeSpec := { name := "fnInks", fn := fun _ => fun
  | [d] => { results := [.lit (.bool true)], args := [d] }
  | _ => none }
def fnInksRow : OpenClaim := { program := "ytnbobpbdclbjlaa", sum := "00634640c4410eaa4881d5ce412f9aad39d9a034fde26b94d10ca9e336dc7407", func := "loop.example/g00987/laws.FnInks", spec := "fnInks", apart := false }
def FnInksSaid : Prop := fnInksRow.holds Try.pinned (OpenSpec.ofChange fnInksSpec)

/-- ITS FALSE NEIGHBOUR: 'it returns false'. Refute it at one input. -/
def fnInksWrong : ChangeSpec := { name := "fnInks", fn := fun _ => fun
  | [d] => { results := [.lit (.bool false)], args := [d] }
  | _ => none }
def FnInksWrongFalsely : Prop := fnInksRow.holds Try.pinned (OpenSpec.ofChange fnInksWrong)

/-- 'laws.FnExactPrintFor': WHATEVER THE INPUT: true; the input reads as it did. -/
def fnExactPrintForSpec : ChangeSpec := { name := "fnExactPrintFor", fn := fun _ => fun
  | [d1, d2] => { results := [.lit (.bool true)], args := [d1, d2] }
  | _ => none }
def fnExactPrintForRow : OpenClaim := { program := "ytnbobpbdclbjlaa", sum := "00634640c4410eaa4881d5ce412f9aad39d9a034fde26b94d10ca9e336dc7407", func := "loop.example/g00987/laws.FnExactPrintFor", spec := "fnExactPrintFor", apart := false }
def FnExactPrintForSaid : Prop := fnExactPrintForRow.holds Try.pinned (OpenSpec.ofChange fnExactPrintForSpec)

/-- ITS FALSE NEIGHBOUR: 'it returns false'. Refute it at one input. -/
def fnExactPrintForWrong : ChangeSpec := { name := "fnExactPrintFor", fn := fun _ => fun
  | [d1, d2] => { results := [.lit (.bool false)], args := [d1, d2] }
  | _ => none }
def FnExactPrintForWrongFalsely : Prop := fnExactPrintForRow.holds Try.pinned (OpenSpec.ofChange fnExactPrintForWrong)

/-- 'laws.FnScreens': WHATEVER THE INPUT: true; the input reads as it did. -/
def fnScreensSpec : ChangeSpec := { name := "fnScreens", fn := fun _ => fun
  | [d] => { results := [.lit (.bool true)], args := [d] }
  | _ => none }
def fnScreensRow : OpenClaim := { program := "ytnbobpbdclbjlaa", sum := "00634640c4410eaa4881d5ce412f9aad39d9a034fde26b94d10ca9e336dc7407", func := "loop.example/g00987/laws.FnScreens", spec := "fnScreens", apart := false }
def FnScreensSaid : Prop := fnScreensRow.holds Try.pinned (OpenSpec.ofChange fnScreensSpec)

/-- ITS FALSE NEIGHBOUR: 'it returns false'. Refute it at one input. -/
def fnScreensWrong : ChangeSpec := { name := "fnScreens", fn := fun _ => fun
  | [d] => { results := [.lit (.bool false)], args := [d] }
  | _ => none }
def FnScreensWrongFalsely : Prop := fnScreensRow.holds Try.pinned (OpenSpec.ofChange fnScreensWrong)

/-- 'laws.FnTones': WHATEVER THE INPUT: true; the input reads as it did. -/
def fnTonesSpec : ChangeSpec := { name := "fnTones", fn := fun _ => fun
  | [d] => { results := [.lit (.bool true)], args := [d] }
  | _ => none }
def fnTonesRow : OpenClaim := { program := "ytnbobpbdclbjlaa", sum := "00634640c4410eaa4881d5ce412f9aad39d9a034fde26b94d10ca9e336dc7407", func := "loop.example/g00987/laws.FnTones", spec := "fnTones", apart := false }
def FnTonesSaid : Prop := fnTonesRow.holds Try.pinned (OpenSpec.ofChange fnTonesSpec)

/-- ITS FALSE NEIGHBOUR: 'it returns false'. Refute it at one input. -/
def fnTonesWrong : ChangeSpec := { name := "fnTones", fn := fun _ => fun
  | [d] => { results := [.lit (.bool false)], args := [d] }
  | _ => none }
def FnTonesWrongFalsely : Prop := fnTonesRow.holds Try.pinned (OpenSpec.ofChange fnTonesWrong)

/- THE SECOND FORM. 'bulk': how many values and letters a reading holds, each counted each time it is reached (what is shared counts as often as it is met; a slice's spare places count too). A statement '..UptoSaid' is the law's where the arguments, and the package variables that the reading takes, are together of bulk at most 1048576: NARROWER than '..Said'. Prove '..Said' where nothing that the law and all that it calls make is longer than what came in: it says more and counts as full. Else prove '..UptoSaid'. A law counts once. -/
mutual
def uptoBulk {H : Type} : DataW H → Nat
  | .lit (.string bytes) => bytes.length + 1
  | .lit _ => 1
  | .nil => 1
  | .ptr d => uptoBulk d + 1
  | .slice elems spare => uptoBulkAll elems + uptoBulkAll spare + 1
  | .agg parts => uptoBulkAll parts + 1
  | .iface _ d => uptoBulk d + 1
  | .map entries => uptoBulkEntries entries + 1
  | .held _ => 1
def uptoBulkAll {H : Type} : List (DataW H) → Nat
  | [] => 0
  | d :: r => uptoBulk d + uptoBulkAll r
def uptoBulkEntries {H : Type} : List (Lit × DataW H) → Nat
  | [] => 0
  | x :: r => uptoBulkEntry x + uptoBulkEntries r
def uptoBulkEntry {H : Type} : Lit × DataW H → Nat
  | (.string bytes, d) => bytes.length + uptoBulk d + 1
  | (_, d) => uptoBulk d + 1
 end
def uptoSmall : (H : Type) → List (DataW H) → Bool := fun _ ds => decide (uptoBulkAll ds ≤ 1048576)
def OpenSpec.upto (s : _root_.Go.ChangeSpec) : _root_.Go.OpenSpec := { _root_.Go.OpenSpec.ofChange s with cond := some uptoSmall }

/-- 'laws.FnExactDotsInTile', WHERE WHAT IT READS IS OF BULK AT MOST 1048576: true; the input reads as it did. -/
def fnExactDotsInTileUptoRow : OpenClaim := { program := "ytnbobpbdclbjlaa", sum := "00634640c4410eaa4881d5ce412f9aad39d9a034fde26b94d10ca9e336dc7407", func := "loop.example/g00987/laws.FnExactDotsInTile", spec := "fnExactDotsInTile", apart := false, narrowed := true }
def FnExactDotsInTileUptoSaid : Prop := fnExactDotsInTileUptoRow.holds Try.pinned (OpenSpec.upto fnExactDotsInTileSpec)

/-- 'laws.FnExactTurnScreen', WHERE WHAT IT READS IS OF BULK AT MOST 1048576: true; the input reads as it did. -/
def fnExactTurnScreenUptoRow : OpenClaim := { program := "ytnbobpbdclbjlaa", sum := "00634640c4410eaa4881d5ce412f9aad39d9a034fde26b94d10ca9e336dc7407", func := "loop.example/g00987/laws.FnExactTurnScreen", spec := "fnExactTurnScreen", apart := false, narrowed := true }
def FnExactTurnScreenUptoSaid : Prop := fnExactTurnScreenUptoRow.holds Try.pinned (OpenSpec.upto fnExactTurnScreenSpec)

/-- 'laws.FnExactLimitInks', WHERE WHAT IT READS IS OF BULK AT MOST 1048576: true; the input reads as it did. -/
def fnExactLimitInksUptoRow : OpenClaim := { program := "ytnbobpbdclbjlaa", sum := "00634640c4410eaa4881d5ce412f9aad39d9a034fde26b94d10ca9e336dc7407", func := "loop.example/g00987/laws.FnExactLimitInks", spec := "fnExactLimitInks", apart := false, narrowed := true }
def FnExactLimitInksUptoSaid : Prop := fnExactLimitInksUptoRow.holds Try.pinned (OpenSpec.upto fnExactLimitInksSpec)

/-- 'laws.FnExactToneAt', WHERE WHAT IT READS IS OF BULK AT MOST 1048576: true; the input reads as it did. -/
def fnExactToneAtUptoRow : OpenClaim := { program := "ytnbobpbdclbjlaa", sum := "00634640c4410eaa4881d5ce412f9aad39d9a034fde26b94d10ca9e336dc7407", func := "loop.example/g00987/laws.FnExactToneAt", spec := "fnExactToneAt", apart := false, narrowed := true }
def FnExactToneAtUptoSaid : Prop := fnExactToneAtUptoRow.holds Try.pinned (OpenSpec.upto fnExactToneAtSpec)

/-- 'laws.FnDots', WHERE WHAT IT READS IS OF BULK AT MOST 1048576: true; the input reads as it did. -/
def fnDotsUptoRow : OpenClaim := { program := "ytnbobpbdclbjlaa", sum := "00634640c4410eaa4881d5ce412f9aad39d9a034fde26b94d10ca9e336dc7407", func := "loop.example/g00987/laws.FnDots", spec := "fnDots", apart := false, narrowed := true }
def FnDotsUptoSaid : Prop := fnDotsUptoRow.holds Try.pinned (OpenSpec.upto fnDotsSpec)

/-- 'laws.FnExactScreenRow', WHERE WHAT IT READS IS OF BULK AT MOST 1048576: true; the input reads as it did. -/
def fnExactScreenRowUptoRow : OpenClaim := { program := "ytnbobpbdclbjlaa", sum := "00634640c4410eaa4881d5ce412f9aad39d9a034fde26b94d10ca9e336dc7407", func := "loop.example/g00987/laws.FnExactScreenRow", spec := "fnExactScreenRow", apart := false, narrowed := true }
def FnExactScreenRowUptoSaid : Prop := fnExactScreenRowUptoRow.holds Try.pinned (OpenSpec.upto fnExactScreenRowSpec)

/-- 'laws.FnExactBlendCurves', WHERE WHAT IT READS IS OF BULK AT MOST 1048576: true; the input reads as it did. -/
def fnExactBlendCurvesUptoRow : OpenClaim := { program := "ytnbobpbdclbjlaa", sum := "00634640c4410eaa4881d5ce412f9aad39d9a034fde26b94d10ca9e336dc7407", func := "loop.example/g00987/laws.FnExactBlendCurves", spec := "fnExactBlendCurves", apart := false, narrowed := true }
def FnExactBlendCurvesUptoSaid : Prop := fnExactBlendCurvesUptoRow.holds Try.pinned (OpenSpec.upto fnExactBlendCurvesSpec)

/-- 'laws.FnInks', WHERE WHAT IT READS IS OF BULK AT MOST 1048576: true; the input reads as it did. -/
def fnInksUptoRow : OpenClaim := { program := "ytnbobpbdclbjlaa", sum := "00634640c4410eaa4881d5ce412f9aad39d9a034fde26b94d10ca9e336dc7407", func := "loop.example/g00987/laws.FnInks", spec := "fnInks", apart := false, narrowed := true }
def FnInksUptoSaid : Prop := fnInksUptoRow.holds Try.pinned (OpenSpec.upto fnInksSpec)

/-- 'laws.FnExactPrintFor', WHERE WHAT IT READS IS OF BULK AT MOST 1048576: true; the input reads as it did. -/
def fnExactPrintForUptoRow : OpenClaim := { program := "ytnbobpbdclbjlaa", sum := "00634640c4410eaa4881d5ce412f9aad39d9a034fde26b94d10ca9e336dc7407", func := "loop.example/g00987/laws.FnExactPrintFor", spec := "fnExactPrintFor", apart := false, narrowed := true }
def FnExactPrintForUptoSaid : Prop := fnExactPrintForUptoRow.holds Try.pinned (OpenSpec.upto fnExactPrintForSpec)

/-- 'laws.FnScreens', WHERE WHAT IT READS IS OF BULK AT MOST 1048576: true; the input reads as it did. -/
def fnScreensUptoRow : OpenClaim := { program := "ytnbobpbdclbjlaa", sum := "00634640c4410eaa4881d5ce412f9aad39d9a034fde26b94d10ca9e336dc7407", func := "loop.example/g00987/laws.FnScreens", spec := "fnScreens", apart := false, narrowed := true }
def FnScreensUptoSaid : Prop := fnScreensUptoRow.holds Try.pinned (OpenSpec.upto fnScreensSpec)

/-- 'laws.FnTones', WHERE WHAT IT READS IS OF BULK AT MOST 1048576: true; the input reads as it did. -/
def fnTonesUptoRow : OpenClaim := { program := "ytnbobpbdclbjlaa", sum := "00634640c4410eaa4881d5ce412f9aad39d9a034fde26b94d10ca9e336dc7407", func := "loop.example/g00987/laws.FnTones", spec := "fnTones", apart := false, narrowed := true }
def FnTonesUptoSaid : Prop := fnTonesUptoRow.holds Try.pinned (OpenSpec.upto fnTonesSpec)

end Rows
end Go.Proofs.Ytnbobpbdclbjlaa
