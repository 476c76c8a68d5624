/-
  No cell of these rows narrows 'for every input' (looked for: loops, veiled, ifaces, maps, wideKeys, modest, calm, conditions, laid).
  DERIVED. THE GIVEN ROWS OF THIS SEAT. 12 by the template 'for every input the law returns true; each argument reads behind the call as it read before'; 0 by the template 'total and deterministic' (their statements: YtcimbljjkciloaaTotals.lean).
  GIVEN WITH THE SEED: the statements are not yours to turn. If you find one false, say at which input.
  Laid BY PROGRAM, IN A SANDBOX (cutbox-rows.mjs): the forced cells as the released guide's own fill.sh prints them over the translation 509a7f717fcff94c… (all of the seat's roots in one cut). By AI agents, Wed Nov 11 2026. No macro, syntax, notation, axiom, sorry.
-/
import Derived.Test.YtcimbljjkciloaaChecked
import GoSem.Claim
import GoSem.ClaimJoined
import GoSem.ClaimMapViews
import Derived.JoinedTies
import Derived.KernelRfl
namespace Go.Proofs.Ytcimbljjkciloaa
/- THE CELL 'sum', in the pinned program and in every row, IS THE sha256 OF THE DUMP (.gsa) THAT YtcimbljjkciloaaProg.lean LOADS. Nothing in Lean hashes anything: it is a label: what it is worth is what the hold of that sum in a sandbox is worth. -/
noncomputable def Try.pinned : Pinned := { name := "ytcimbljjkciloaa", sum := "509a7f717fcff94ca2f508c876be88d7d8dd783910359832efedd319776c4769", checked := Try.checked }
namespace Rows
def none {H : Type} : Left H := { results := [], args := [] }

/-- 'laws.FnExactThresholdAt': WHATEVER THE INPUT: true; the input reads as it did. -/
def fnExactThresholdAtSpec : ChangeSpec := { name := "fnExactThresholdAt", fn := fun _ => fun
  | [d1, d2] => { results := [.lit (.bool true)], args := [d1, d2] }
  | _ => none }
def fnExactThresholdAtRow : OpenClaim := { program := "ytcimbljjkciloaa", sum := "509a7f717fcff94ca2f508c876be88d7d8dd783910359832efedd319776c4769", func := "loop.example/g00987/laws.FnExactThresholdAt", spec := "fnExactThresholdAt", apart := false }
def FnExactThresholdAtSaid : Prop := fnExactThresholdAtRow.holds Try.pinned (OpenSpec.ofChange fnExactThresholdAtSpec)

/-- ITS FALSE NEIGHBOUR: 'it returns false'. Refute it at one input. -/
def fnExactThresholdAtWrong : ChangeSpec := { name := "fnExactThresholdAt", fn := fun _ => fun
  | [d1, d2] => { results := [.lit (.bool false)], args := [d1, d2] }
  | _ => none }
def FnExactThresholdAtWrongFalsely : Prop := fnExactThresholdAtRow.holds Try.pinned (OpenSpec.ofChange fnExactThresholdAtWrong)

/-- 'laws.FnExactTimingOk': WHATEVER THE INPUT: true; the input reads as it did. -/
def fnExactTimingOkSpec : ChangeSpec := { name := "fnExactTimingOk", fn := fun _ => fun
  | [d] => { results := [.lit (.bool true)], args := [d] }
  | _ => none }
def fnExactTimingOkRow : OpenClaim := { program := "ytcimbljjkciloaa", sum := "509a7f717fcff94ca2f508c876be88d7d8dd783910359832efedd319776c4769", func := "loop.example/g00987/laws.FnExactTimingOk", spec := "fnExactTimingOk", apart := false }
def FnExactTimingOkSaid : Prop := fnExactTimingOkRow.holds Try.pinned (OpenSpec.ofChange fnExactTimingOkSpec)

/-- ITS FALSE NEIGHBOUR: 'it returns false'. Refute it at one input. -/
def fnExactTimingOkWrong : ChangeSpec := { name := "fnExactTimingOk", fn := fun _ => fun
  | [d] => { results := [.lit (.bool false)], args := [d] }
  | _ => none }
def FnExactTimingOkWrongFalsely : Prop := fnExactTimingOkRow.holds Try.pinned (OpenSpec.ofChange fnExactTimingOkWrong)

/-- 'laws.FnExactInksOk': WHATEVER THE INPUT: true; the input reads as it did. -/
def fnExactInksOkSpec : ChangeSpec := { name := "fnExactInksOk", fn := fun _ => fun
  | [d] => { results := [.lit (.bool true)], args := [d] }
  | _ => none }
def fnExactInksOkRow : OpenClaim := { program := "ytcimbljjkciloaa", sum := "509a7f717fcff94ca2f508c876be88d7d8dd783910359832efedd319776c4769", func := "loop.example/g00987/laws.FnExactInksOk", spec := "fnExactInksOk", apart := false }
def FnExactInksOkSaid : Prop := fnExactInksOkRow.holds Try.pinned (OpenSpec.ofChange fnExactInksOkSpec)

/-- ITS FALSE NEIGHBOUR: 'it returns false'. Refute it at one input. -/
def fnExactInksOkWrong : ChangeSpec := { name := "fnExactInksOk", fn := fun _ => fun
  | [d] => { results := [.lit (.bool false)], args := [d] }
  | _ => none }
def FnExactInksOkWrongFalsely : Prop := fnExactInksOkRow.holds Try.pinned (OpenSpec.ofChange fnExactInksOkWrong)

/-- 'laws.FnExactScreenDot': WHATEVER THE INPUT: true; the input reads as it did. -/
def fnExactScreenDotSpec : ChangeSpec := { name := "fnExactScreenDot", fn := fun _ => fun
  | [d1, d2, d3] => { results := [.lit (.bool true)], args := [d1, d2, d3] }
  | _ => none }
def fnExactScreenDotRow : OpenClaim := { program := "ytcimbljjkciloaa", sum := "509a7f717fcff94ca2f508c876be88d7d8dd783910359832efedd319776c4769", func := "loop.example/g00987/laws.FnExactScreenDot", spec := "fnExactScreenDot", apart := false }
def FnExactScreenDotSaid : Prop := fnExactScreenDotRow.holds Try.pinned (OpenSpec.ofChange fnExactScreenDotSpec)

/-- ITS FALSE NEIGHBOUR: 'it returns false'. Refute it at one input. -/
def fnExactScreenDotWrong : ChangeSpec := { name := "fnExactScreenDot", fn := fun _ => fun
  | [d1, d2, d3] => { results := [.lit (.bool false)], args := [d1, d2, d3] }
  | _ => none }
def FnExactScreenDotWrongFalsely : Prop := fnExactScreenDotRow.holds Try.pinned (OpenSpec.ofChange fnExactScreenDotWrong)

/-- 'laws.FnExactToLight': WHATEVER THE INPUT: true; the input reads as it did. -/
def fnExactToLightSpec : ChangeSpec := { name := "fnExactToLight", fn := fun _ => fun
  | [d] => { results := [.lit (.bool true)], args := [d] }
  | _ => none }
def fnExactToLightRow : OpenClaim := { program := "ytcimbljjkciloaa", sum := "509a7f717fcff94ca2f508c876be88d7d8dd783910359832efedd319776c4769", func := "loop.example/g00987/laws.FnExactToLight", spec := "fnExactToLight", apart := false }
def FnExactToLightSaid : Prop := fnExactToLightRow.holds Try.pinned (OpenSpec.ofChange fnExactToLightSpec)

/-- ITS FALSE NEIGHBOUR: 'it returns false'. Refute it at one input. -/
def fnExactToLightWrong : ChangeSpec := { name := "fnExactToLight", fn := fun _ => fun
  | [d] => { results := [.lit (.bool false)], args := [d] }
  | _ => none }
def FnExactToLightWrongFalsely : Prop := fnExactToLightRow.holds Try.pinned (OpenSpec.ofChange fnExactToLightWrong)

/-- 'laws.FnExactTotalInk': WHATEVER THE INPUT: true; the input reads as it did. -/
def fnExactTotalInkSpec : ChangeSpec := { name := "fnExactTotalInk", fn := fun _ => fun
  | [d] => { results := [.lit (.bool true)], args := [d] }
  | _ => none }
def fnExactTotalInkRow : OpenClaim := { program := "ytcimbljjkciloaa", sum := "509a7f717fcff94ca2f508c876be88d7d8dd783910359832efedd319776c4769", func := "loop.example/g00987/laws.FnExactTotalInk", spec := "fnExactTotalInk", apart := false }
def FnExactTotalInkSaid : Prop := fnExactTotalInkRow.holds Try.pinned (OpenSpec.ofChange fnExactTotalInkSpec)

/-- ITS FALSE NEIGHBOUR: 'it returns false'. Refute it at one input. -/
def fnExactTotalInkWrong : ChangeSpec := { name := "fnExactTotalInk", fn := fun _ => fun
  | [d] => { results := [.lit (.bool false)], args := [d] }
  | _ => none }
def FnExactTotalInkWrongFalsely : Prop := fnExactTotalInkRow.holds Try.pinned (OpenSpec.ofChange fnExactTotalInkWrong)

/-- 'laws.FnExactNoCarry': WHATEVER THE INPUT: true; the input reads as it did. -/
def fnExactNoCarrySpec : ChangeSpec := { name := "fnExactNoCarry", fn := fun _ => fun
  | [] => { results := [.lit (.bool true)], args := [] }
  | _ => none }
def fnExactNoCarryRow : OpenClaim := { program := "ytcimbljjkciloaa", sum := "509a7f717fcff94ca2f508c876be88d7d8dd783910359832efedd319776c4769", func := "loop.example/g00987/laws.FnExactNoCarry", spec := "fnExactNoCarry", apart := false }
def FnExactNoCarrySaid : Prop := fnExactNoCarryRow.holds Try.pinned (OpenSpec.ofChange fnExactNoCarrySpec)

/-- ITS FALSE NEIGHBOUR: 'it returns false'. Refute it at one input. -/
def fnExactNoCarryWrong : ChangeSpec := { name := "fnExactNoCarry", fn := fun _ => fun
  | [] => { results := [.lit (.bool false)], args := [] }
  | _ => none }
def FnExactNoCarryWrongFalsely : Prop := fnExactNoCarryRow.holds Try.pinned (OpenSpec.ofChange fnExactNoCarryWrong)

/-- 'laws.FnExactSumOf': WHATEVER THE INPUT: true; the input reads as it did. -/
def fnExactSumOfSpec : ChangeSpec := { name := "fnExactSumOf", fn := fun _ => fun
  | [d] => { results := [.lit (.bool true)], args := [d] }
  | _ => none }
def fnExactSumOfRow : OpenClaim := { program := "ytcimbljjkciloaa", sum := "509a7f717fcff94ca2f508c876be88d7d8dd783910359832efedd319776c4769", func := "loop.example/g00987/laws.FnExactSumOf", spec := "fnExactSumOf", apart := false }
def FnExactSumOfSaid : Prop := fnExactSumOfRow.holds Try.pinned (OpenSpec.ofChange fnExactSumOfSpec)

/-- ITS FALSE NEIGHBOUR: 'it returns false'. Refute it at one input. -/
def fnExactSumOfWrong : ChangeSpec := { name := "fnExactSumOf", fn := fun _ => fun
  | [d] => { results := [.lit (.bool false)], args := [d] }
  | _ => none }
def FnExactSumOfWrongFalsely : Prop := fnExactSumOfRow.holds Try.pinned (OpenSpec.ofChange fnExactSumOfWrong)

/-- 'laws.FnExactToInks': WHATEVER THE INPUT: true; the input reads as it did. -/
def fnExactToInksSpec : ChangeSpec := { name := "fnExactToInks", fn := fun _ => fun
  | [d1, d2, d3, d4] => { results := [.lit (.bool true)], args := [d1, d2, d3, d4] }
  | _ => none }
def fnExactToInksRow : OpenClaim := { program := "ytcimbljjkciloaa", sum := "509a7f717fcff94ca2f508c876be88d7d8dd783910359832efedd319776c4769", func := "loop.example/g00987/laws.FnExactToInks", spec := "fnExactToInks", apart := false }
def FnExactToInksSaid : Prop := fnExactToInksRow.holds Try.pinned (OpenSpec.ofChange fnExactToInksSpec)

/-- ITS FALSE NEIGHBOUR: 'it returns false'. Refute it at one input. -/
def fnExactToInksWrong : ChangeSpec := { name := "fnExactToInks", fn := fun _ => fun
  | [d1, d2, d3, d4] => { results := [.lit (.bool false)], args := [d1, d2, d3, d4] }
  | _ => none }
def FnExactToInksWrongFalsely : Prop := fnExactToInksRow.holds Try.pinned (OpenSpec.ofChange fnExactToInksWrong)

/-- 'laws.FnExactCarryOk': WHATEVER THE INPUT: true; the input reads as it did. -/
def fnExactCarryOkSpec : ChangeSpec := { name := "fnExactCarryOk", fn := fun _ => fun
  | [d] => { results := [.lit (.bool true)], args := [d] }
  | _ => none }
def fnExactCarryOkRow : OpenClaim := { program := "ytcimbljjkciloaa", sum := "509a7f717fcff94ca2f508c876be88d7d8dd783910359832efedd319776c4769", func := "loop.example/g00987/laws.FnExactCarryOk", spec := "fnExactCarryOk", apart := false }
def FnExactCarryOkSaid : Prop := fnExactCarryOkRow.holds Try.pinned (OpenSpec.ofChange fnExactCarryOkSpec)

/-- ITS FALSE NEIGHBOUR: 'it returns false'. Refute it at one input. -/
def fnExactCarryOkWrong : ChangeSpec := { name := "fnExactCarryOk", fn := fun _ => fun
  | [d] => { results := [.lit (.bool false)], args := [d] }
  | _ => none }
def FnExactCarryOkWrongFalsely : Prop := fnExactCarryOkRow.holds Try.pinned (OpenSpec.ofChange fnExactCarryOkWrong)

/-- 'laws.FnExactCurveOk': WHATEVER THE INPUT: true; the input reads as it did. -/
def fnExactCurveOkSpec : ChangeSpec := { name := "fnExactCurveOk", fn := fun _ => fun
  | [d] => { results := [.lit (.bool true)], args := [d] }
  | _ => none }
def fnExactCurveOkRow : OpenClaim := { program := "ytcimbljjkciloaa", sum := "509a7f717fcff94ca2f508c876be88d7d8dd783910359832efedd319776c4769", func := "loop.example/g00987/laws.FnExactCurveOk", spec := "fnExactCurveOk", apart := false }
def FnExactCurveOkSaid : Prop := fnExactCurveOkRow.holds Try.pinned (OpenSpec.ofChange fnExactCurveOkSpec)

/-- ITS FALSE NEIGHBOUR: 'it returns false'. Refute it at one input. -/
def fnExactCurveOkWrong : ChangeSpec := { name := "fnExactCurveOk", fn := fun _ => fun
  | [d] => { results := [.lit (.bool false)], args := [d] }
  | _ => none }
def FnExactCurveOkWrongFalsely : Prop := fnExactCurveOkRow.holds Try.pinned (OpenSpec.ofChange fnExactCurveOkWrong)

/-- 'laws.FnExactStraightCurve': WHATEVER THE INPUT: true; the input reads as it did. -/
def fnExactStraightCurveSpec : ChangeSpec := { name := "fnExactStraightCurve", fn := fun _ => fun
  | [] => { results := [.lit (.bool true)], args := [] }
  | _ => none }
def fnExactStraightCurveRow : OpenClaim := { program := "ytcimbljjkciloaa", sum := "509a7f717fcff94ca2f508c876be88d7d8dd783910359832efedd319776c4769", func := "loop.example/g00987/laws.FnExactStraightCurve", spec := "fnExactStraightCurve", apart := false }
def FnExactStraightCurveSaid : Prop := fnExactStraightCurveRow.holds Try.pinned (OpenSpec.ofChange fnExactStraightCurveSpec)

/-- ITS FALSE NEIGHBOUR: 'it returns false'. Refute it at one input. -/
def fnExactStraightCurveWrong : ChangeSpec := { name := "fnExactStraightCurve", fn := fun _ => fun
  | [] => { results := [.lit (.bool false)], args := [] }
  | _ => none }
def FnExactStraightCurveWrongFalsely : Prop := fnExactStraightCurveRow.holds Try.pinned (OpenSpec.ofChange fnExactStraightCurveWrong)

/- THE SECOND FORM. 'bulk': how many values and letters a reading holds, each counted each time it is reached (what is shared counts as often as it is met; a slice's spare places count too). A statement '..UptoSaid' is the law's where the arguments, and the package variables that the reading takes, are together of bulk at most 1048576: NARROWER than '..Said'. Prove '..Said' where nothing that the law and all that it calls make is longer than what came in: it says more and counts as full. Else prove '..UptoSaid'. A law counts once. -/
mutual
def uptoBulk {H : Type} : DataW H → Nat
  | .lit (.string bytes) => bytes.length + 1
  | .lit _ => 1
  | .nil => 1
  | .ptr d => uptoBulk d + 1
  | .slice elems spare => uptoBulkAll elems + uptoBulkAll spare + 1
  | .agg parts => uptoBulkAll parts + 1
  | .iface _ d => uptoBulk d + 1
  | .map entries => uptoBulkEntries entries + 1
  | .held _ => 1
def uptoBulkAll {H : Type} : List (DataW H) → Nat
  | [] => 0
  | d :: r => uptoBulk d + uptoBulkAll r
def uptoBulkEntries {H : Type} : List (Lit × DataW H) → Nat
  | [] => 0
  | x :: r => uptoBulkEntry x + uptoBulkEntries r
def uptoBulkEntry {H : Type} : Lit × DataW H → Nat
  | (.string bytes, d) => bytes.length + uptoBulk d + 1
  | (_, d) => uptoBulk d + 1
 end
def uptoSmall : (H : Type) → List (DataW H) → Bool := fun _ ds => decide (uptoBulkAll ds ≤ 1048576)
def OpenSpec.upto (s : _root_.Go.ChangeSpec) : _root_.Go.OpenSpec := { _root_.Go.OpenSpec.ofChange s with cond := some uptoSmall }

/-- 'laws.FnExactThresholdAt', WHERE WHAT IT READS IS OF BULK AT MOST 1048576: true; the input reads as it did. -/
def fnExactThresholdAtUptoRow : OpenClaim := { program := "ytcimbljjkciloaa", sum := "509a7f717fcff94ca2f508c876be88d7d8dd783910359832efedd319776c4769", func := "loop.example/g00987/laws.FnExactThresholdAt", spec := "fnExactThresholdAt", apart := false, narrowed := true }
def FnExactThresholdAtUptoSaid : Prop := fnExactThresholdAtUptoRow.holds Try.pinned (OpenSpec.upto fnExactThresholdAtSpec)

/-- 'laws.FnExactTimingOk', WHERE WHAT IT READS IS OF BULK AT MOST 1048576: true; the input reads as it did. -/
def fnExactTimingOkUptoRow : OpenClaim := { program := "ytcimbljjkciloaa", sum := "509a7f717fcff94ca2f508c876be88d7d8dd783910359832efedd319776c4769", func := "loop.example/g00987/laws.FnExactTimingOk", spec := "fnExactTimingOk", apart := false, narrowed := true }
def FnExactTimingOkUptoSaid : Prop := fnExactTimingOkUptoRow.holds Try.pinned (OpenSpec.upto fnExactTimingOkSpec)

/-- 'laws.FnExactInksOk', WHERE WHAT IT READS IS OF BULK AT MOST 1048576: true; the input reads as it did. -/
def fnExactInksOkUptoRow : OpenClaim := { program := "ytcimbljjkciloaa", sum := "509a7f717fcff94ca2f508c876be88d7d8dd783910359832efedd319776c4769", func := "loop.example/g00987/laws.FnExactInksOk", spec := "fnExactInksOk", apart := false, narrowed := true }
def FnExactInksOkUptoSaid : Prop := fnExactInksOkUptoRow.holds Try.pinned (OpenSpec.upto fnExactInksOkSpec)

/-- 'laws.FnExactScreenDot', WHERE WHAT IT READS IS OF BULK AT MOST 1048576: true; the input reads as it did. -/
def fnExactScreenDotUptoRow : OpenClaim := { program := "ytcimbljjkciloaa", sum := "509a7f717fcff94ca2f508c876be88d7d8dd783910359832efedd319776c4769", func := "loop.example/g00987/laws.FnExactScreenDot", spec := "fnExactScreenDot", apart := false, narrowed := true }
def FnExactScreenDotUptoSaid : Prop := fnExactScreenDotUptoRow.holds Try.pinned (OpenSpec.upto fnExactScreenDotSpec)

/-- 'laws.FnExactToLight', WHERE WHAT IT READS IS OF BULK AT MOST 1048576: true; the input reads as it did. -/
def fnExactToLightUptoRow : OpenClaim := { program := "ytcimbljjkciloaa", sum := "509a7f717fcff94ca2f508c876be88d7d8dd783910359832efedd319776c4769", func := "loop.example/g00987/laws.FnExactToLight", spec := "fnExactToLight", apart := false, narrowed := true }
def FnExactToLightUptoSaid : Prop := fnExactToLightUptoRow.holds Try.pinned (OpenSpec.upto fnExactToLightSpec)

/-- 'laws.FnExactTotalInk', WHERE WHAT IT READS IS OF BULK AT MOST 1048576: true; the input reads as it did. -/
def fnExactTotalInkUptoRow : OpenClaim := { program := "ytcimbljjkciloaa", sum := "509a7f717fcff94ca2f508c876be88d7d8dd783910359832efedd319776c4769", func := "loop.example/g00987/laws.FnExactTotalInk", spec := "fnExactTotalInk", apart := false, narrowed := true }
def FnExactTotalInkUptoSaid : Prop := fnExactTotalInkUptoRow.holds Try.pinned (OpenSpec.upto fnExactTotalInkSpec)

/-- 'laws.FnExactNoCarry', WHERE WHAT IT READS IS OF BULK AT MOST 1048576: true; the input reads as it did. -/
def fnExactNoCarryUptoRow : OpenClaim := { program := "ytcimbljjkciloaa", sum := "509a7f717fcff94ca2f508c876be88d7d8dd783910359832efedd319776c4769", func := "loop.example/g00987/laws.FnExactNoCarry", spec := "fnExactNoCarry", apart := false, narrowed := true }
def FnExactNoCarryUptoSaid : Prop := fnExactNoCarryUptoRow.holds Try.pinned (OpenSpec.upto fnExactNoCarrySpec)

/-- 'laws.FnExactSumOf', WHERE WHAT IT READS IS OF BULK AT MOST 1048576: true; the input reads as it did. -/
def fnExactSumOfUptoRow : OpenClaim := { program := "ytcimbljjkciloaa", sum := "509a7f717fcff94ca2f508c876be88d7d8dd783910359832efedd319776c4769", func := "loop.example/g00987/laws.FnExactSumOf", spec := "fnExactSumOf", apart := false, narrowed := true }
def FnExactSumOfUptoSaid : Prop := fnExactSumOfUptoRow.holds Try.pinned (OpenSpec.upto fnExactSumOfSpec)

/-- 'laws.FnExactToInks', WHERE WHAT IT READS IS OF BULK AT MOST 1048576: true; the input reads as it did. -/
def fnExactToInksUptoRow : OpenClaim := { program := "ytcimbljjkciloaa", sum := "509a7f717fcff94ca2f508c876be88d7d8dd783910359832efedd319776c4769", func := "loop.example/g00987/laws.FnExactToInks", spec := "fnExactToInks", apart := false, narrowed := true }
def FnExactToInksUptoSaid : Prop := fnExactToInksUptoRow.holds Try.pinned (OpenSpec.upto fnExactToInksSpec)

/-- 'laws.FnExactCarryOk', WHERE WHAT IT READS IS OF BULK AT MOST 1048576: true; the input reads as it did. -/
def fnExactCarryOkUptoRow : OpenClaim := { program := "ytcimbljjkciloaa", sum := "509a7f717fcff94ca2f508c876be88d7d8dd783910359832efedd319776c4769", func := "loop.example/g00987/laws.FnExactCarryOk", spec := "fnExactCarryOk", apart := false, narrowed := true }
def FnExactCarryOkUptoSaid : Prop := fnExactCarryOkUptoRow.holds Try.pinned (OpenSpec.upto fnExactCarryOkSpec)

/-- 'laws.FnExactCurveOk', WHERE WHAT IT READS IS OF BULK AT MOST 1048576: true; the input reads as it did. -/
def fnExactCurveOkUptoRow : OpenClaim := { program := "ytcimbljjkciloaa", sum := "509a7f717fcff94ca2f508c876be88d7d8dd783910359832efedd319776c4769", func := "loop.example/g00987/laws.FnExactCurveOk", spec := "fnExactCurveOk", apart := false, narrowed := true }
def FnExactCurveOkUptoSaid : Prop := fnExactCurveOkUptoRow.holds Try.pinned (OpenSpec.upto fnExactCurveOkSpec)

/-- 'laws.FnExactStraightCurve', WHERE WHAT IT READS IS OF BULK AT MOST 1048576: true; the input reads as it did. -/
def fnExactStraightCurveUptoRow : OpenClaim := { program := "ytcimbljjkciloaa", sum := "509a7f717fcff94ca2f508c876be88d7d8dd783910359832efedd319776c4769", func := "loop.example/g00987/laws.FnExactStraightCurve", spec := "fnExactStraightCurve", apart := false, narrowed := true }
def FnExactStraightCurveUptoSaid : Prop := fnExactStraightCurveUptoRow.holds Try.pinned (OpenSpec.upto fnExactStraightCurveSpec)

end Rows
end Go.Proofs.Ytcimbljjkciloaa
