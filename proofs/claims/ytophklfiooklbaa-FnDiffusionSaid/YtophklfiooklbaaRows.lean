/-
  No cell of these rows narrows 'for every input' (looked for: loops, veiled, ifaces, maps, wideKeys, modest, calm, conditions, laid).
  DERIVED. THE GIVEN ROWS OF THIS SEAT. 11 by the template 'for every input the law returns true; each argument reads behind the call as it read before'; 0 by the template 'total and deterministic' (their statements: YtophklfiooklbaaTotals.lean).
  GIVEN WITH THE SEED: the statements are not yours to turn. If you find one false, say at which input.
  Laid BY PROGRAM, IN A SANDBOX (cutbox-rows.mjs): the forced cells as the released guide's own fill.sh prints them over the translation 11b0e029a26d3bcd… (all of the seat's roots in one cut). By AI agents, Wed Nov 11 2026. No macro, syntax, notation, axiom, sorry.
-/
import Derived.Test.YtophklfiooklbaaChecked
import GoSem.Claim
import GoSem.ClaimJoined
import GoSem.ClaimMapViews
import Derived.JoinedTies
import Derived.KernelRfl
namespace Go.Proofs.Ytophklfiooklbaa
/- THE CELL 'sum', in the pinned program and in every row, IS THE sha256 OF THE DUMP (.gsa) THAT YtophklfiooklbaaProg.lean LOADS. Nothing in Lean hashes anything: it is a label: what it is worth is what the hold of that sum in a sandbox is worth. -/
noncomputable def Try.pinned : Pinned := { name := "ytophklfiooklbaa", sum := "11b0e029a26d3bcd7703562d715c8a5fba2ce793e27e8b590ee451043d460945", checked := Try.checked }
namespace Rows
def none {H : Type} : Left H := { results := [], args := [] }

/-- 'laws.FnDiffusion': WHATEVER THE INPUT: true; the input reads as it did. -/
def fnDiffusionSpec : ChangeSpec := { name := "fnDiffusion", fn := fun _ => fun
  | [d] => { results := [.lit (.bool true)], args := [d] }
  | _ => none }
def fnDiffusionRow : OpenClaim := { program := "ytophklfiooklbaa", sum := "11b0e029a26d3bcd7703562d715c8a5fba2ce793e27e8b590ee451043d460945", func := "loop.example/g00987/laws.FnDiffusion", spec := "fnDiffusion", unfollowed := true, recurses := true, apart := false }
def FnDiffusionSaid : Prop := fnDiffusionRow.holds Try.pinned (OpenSpec.ofChange fnDiffusionSpec)

/-- ITS FALSE NEIGHBOUR: 'it returns false'. Refute it at one input. -/
def fnDiffusionWrong : ChangeSpec := { name := "fnDiffusion", fn := fun _ => fun
  | [d] => { results := [.lit (.bool false)], args := [d] }
  | _ => none }
def FnDiffusionWrongFalsely : Prop := fnDiffusionRow.holds Try.pinned (OpenSpec.ofChange fnDiffusionWrong)

/-- 'laws.FnExactBitsOk': WHATEVER THE INPUT: true; the input reads as it did. -/
def fnExactBitsOkSpec : ChangeSpec := { name := "fnExactBitsOk", fn := fun _ => fun
  | [d] => { results := [.lit (.bool true)], args := [d] }
  | _ => none }
def fnExactBitsOkRow : OpenClaim := { program := "ytophklfiooklbaa", sum := "11b0e029a26d3bcd7703562d715c8a5fba2ce793e27e8b590ee451043d460945", func := "loop.example/g00987/laws.FnExactBitsOk", spec := "fnExactBitsOk", apart := false }
def FnExactBitsOkSaid : Prop := fnExactBitsOkRow.holds Try.pinned (OpenSpec.ofChange fnExactBitsOkSpec)

/-- ITS FALSE NEIGHBOUR: 'it returns false'. Refute it at one input. -/
def fnExactBitsOkWrong : ChangeSpec := { name := "fnExactBitsOk", fn := fun _ => fun
  | [d] => { results := [.lit (.bool false)], args := [d] }
  | _ => none }
def FnExactBitsOkWrongFalsely : Prop := fnExactBitsOkRow.holds Try.pinned (OpenSpec.ofChange fnExactBitsOkWrong)

/-- 'laws.FnSums': WHATEVER THE INPUT: true; the input reads as it did. -/
def fnSumsSpec : ChangeSpec := { name := "fnSums", fn := fun _ => fun
  | [d] => { results := [.lit (.bool true)], args := [d] }
  | _ => none }
def fnSumsRow : OpenClaim := { program := "ytophklfiooklbaa", sum := "11b0e029a26d3bcd7703562d715c8a5fba2ce793e27e8b590ee451043d460945", func := "loop.example/g00987/laws.FnSums", spec := "fnSums", apart := false }
def FnSumsSaid : Prop := fnSumsRow.holds Try.pinned (OpenSpec.ofChange fnSumsSpec)

/-- ITS FALSE NEIGHBOUR: 'it returns false'. Refute it at one input. -/
def fnSumsWrong : ChangeSpec := { name := "fnSums", fn := fun _ => fun
  | [d] => { results := [.lit (.bool false)], args := [d] }
  | _ => none }
def FnSumsWrongFalsely : Prop := fnSumsRow.holds Try.pinned (OpenSpec.ofChange fnSumsWrong)

/-- 'laws.FnExactDiffuseRow': WHATEVER THE INPUT: true; the input reads as it did. -/
def fnExactDiffuseRowSpec : ChangeSpec := { name := "fnExactDiffuseRow", fn := fun _ => fun
  | [d1, d2] => { results := [.lit (.bool true)], args := [d1, d2] }
  | _ => none }
def fnExactDiffuseRowRow : OpenClaim := { program := "ytophklfiooklbaa", sum := "11b0e029a26d3bcd7703562d715c8a5fba2ce793e27e8b590ee451043d460945", func := "loop.example/g00987/laws.FnExactDiffuseRow", spec := "fnExactDiffuseRow", apart := false }
def FnExactDiffuseRowSaid : Prop := fnExactDiffuseRowRow.holds Try.pinned (OpenSpec.ofChange fnExactDiffuseRowSpec)

/-- ITS FALSE NEIGHBOUR: 'it returns false'. Refute it at one input. -/
def fnExactDiffuseRowWrong : ChangeSpec := { name := "fnExactDiffuseRow", fn := fun _ => fun
  | [d1, d2] => { results := [.lit (.bool false)], args := [d1, d2] }
  | _ => none }
def FnExactDiffuseRowWrongFalsely : Prop := fnExactDiffuseRowRow.holds Try.pinned (OpenSpec.ofChange fnExactDiffuseRowWrong)

/-- 'laws.FnExactCountOnes': WHATEVER THE INPUT: true; the input reads as it did. -/
def fnExactCountOnesSpec : ChangeSpec := { name := "fnExactCountOnes", fn := fun _ => fun
  | [d] => { results := [.lit (.bool true)], args := [d] }
  | _ => none }
def fnExactCountOnesRow : OpenClaim := { program := "ytophklfiooklbaa", sum := "11b0e029a26d3bcd7703562d715c8a5fba2ce793e27e8b590ee451043d460945", func := "loop.example/g00987/laws.FnExactCountOnes", spec := "fnExactCountOnes", apart := false }
def FnExactCountOnesSaid : Prop := fnExactCountOnesRow.holds Try.pinned (OpenSpec.ofChange fnExactCountOnesSpec)

/-- ITS FALSE NEIGHBOUR: 'it returns false'. Refute it at one input. -/
def fnExactCountOnesWrong : ChangeSpec := { name := "fnExactCountOnes", fn := fun _ => fun
  | [d] => { results := [.lit (.bool false)], args := [d] }
  | _ => none }
def FnExactCountOnesWrongFalsely : Prop := fnExactCountOnesRow.holds Try.pinned (OpenSpec.ofChange fnExactCountOnesWrong)

/-- 'laws.FnExactDropUnder': WHATEVER THE INPUT: true; the input reads as it did. -/
def fnExactDropUnderSpec : ChangeSpec := { name := "fnExactDropUnder", fn := fun _ => fun
  | [d] => { results := [.lit (.bool true)], args := [d] }
  | _ => none }
def fnExactDropUnderRow : OpenClaim := { program := "ytophklfiooklbaa", sum := "11b0e029a26d3bcd7703562d715c8a5fba2ce793e27e8b590ee451043d460945", func := "loop.example/g00987/laws.FnExactDropUnder", spec := "fnExactDropUnder", apart := false }
def FnExactDropUnderSaid : Prop := fnExactDropUnderRow.holds Try.pinned (OpenSpec.ofChange fnExactDropUnderSpec)

/-- ITS FALSE NEIGHBOUR: 'it returns false'. Refute it at one input. -/
def fnExactDropUnderWrong : ChangeSpec := { name := "fnExactDropUnder", fn := fun _ => fun
  | [d] => { results := [.lit (.bool false)], args := [d] }
  | _ => none }
def FnExactDropUnderWrongFalsely : Prop := fnExactDropUnderRow.holds Try.pinned (OpenSpec.ofChange fnExactDropUnderWrong)

/-- 'laws.FnExactPlaneOf': WHATEVER THE INPUT: true; the input reads as it did. -/
def fnExactPlaneOfSpec : ChangeSpec := { name := "fnExactPlaneOf", fn := fun _ => fun
  | [d1, d2] => { results := [.lit (.bool true)], args := [d1, d2] }
  | _ => none }
def fnExactPlaneOfRow : OpenClaim := { program := "ytophklfiooklbaa", sum := "11b0e029a26d3bcd7703562d715c8a5fba2ce793e27e8b590ee451043d460945", func := "loop.example/g00987/laws.FnExactPlaneOf", spec := "fnExactPlaneOf", apart := false }
def FnExactPlaneOfSaid : Prop := fnExactPlaneOfRow.holds Try.pinned (OpenSpec.ofChange fnExactPlaneOfSpec)

/-- ITS FALSE NEIGHBOUR: 'it returns false'. Refute it at one input. -/
def fnExactPlaneOfWrong : ChangeSpec := { name := "fnExactPlaneOf", fn := fun _ => fun
  | [d1, d2] => { results := [.lit (.bool false)], args := [d1, d2] }
  | _ => none }
def FnExactPlaneOfWrongFalsely : Prop := fnExactPlaneOfRow.holds Try.pinned (OpenSpec.ofChange fnExactPlaneOfWrong)

/-- 'laws.FnExactPackPlanes': WHATEVER THE INPUT: true; the input reads as it did. -/
def fnExactPackPlanesSpec : ChangeSpec := { name := "fnExactPackPlanes", fn := fun _ => fun
  | [d1, d2, d3, d4] => { results := [.lit (.bool true)], args := [d1, d2, d3, d4] }
  | _ => none }
def fnExactPackPlanesRow : OpenClaim := { program := "ytophklfiooklbaa", sum := "11b0e029a26d3bcd7703562d715c8a5fba2ce793e27e8b590ee451043d460945", func := "loop.example/g00987/laws.FnExactPackPlanes", spec := "fnExactPackPlanes", apart := false }
def FnExactPackPlanesSaid : Prop := fnExactPackPlanesRow.holds Try.pinned (OpenSpec.ofChange fnExactPackPlanesSpec)

/-- ITS FALSE NEIGHBOUR: 'it returns false'. Refute it at one input. -/
def fnExactPackPlanesWrong : ChangeSpec := { name := "fnExactPackPlanes", fn := fun _ => fun
  | [d1, d2, d3, d4] => { results := [.lit (.bool false)], args := [d1, d2, d3, d4] }
  | _ => none }
def FnExactPackPlanesWrongFalsely : Prop := fnExactPackPlanesRow.holds Try.pinned (OpenSpec.ofChange fnExactPackPlanesWrong)

/-- 'laws.FnExactCountInk': WHATEVER THE INPUT: true; the input reads as it did. -/
def fnExactCountInkSpec : ChangeSpec := { name := "fnExactCountInk", fn := fun _ => fun
  | [d] => { results := [.lit (.bool true)], args := [d] }
  | _ => none }
def fnExactCountInkRow : OpenClaim := { program := "ytophklfiooklbaa", sum := "11b0e029a26d3bcd7703562d715c8a5fba2ce793e27e8b590ee451043d460945", func := "loop.example/g00987/laws.FnExactCountInk", spec := "fnExactCountInk", apart := false }
def FnExactCountInkSaid : Prop := fnExactCountInkRow.holds Try.pinned (OpenSpec.ofChange fnExactCountInkSpec)

/-- ITS FALSE NEIGHBOUR: 'it returns false'. Refute it at one input. -/
def fnExactCountInkWrong : ChangeSpec := { name := "fnExactCountInk", fn := fun _ => fun
  | [d] => { results := [.lit (.bool false)], args := [d] }
  | _ => none }
def FnExactCountInkWrongFalsely : Prop := fnExactCountInkRow.holds Try.pinned (OpenSpec.ofChange fnExactCountInkWrong)

/-- 'laws.FnExactDiffuseRows': WHATEVER THE INPUT: true; the input reads as it did. -/
def fnExactDiffuseRowsSpec : ChangeSpec := { name := "fnExactDiffuseRows", fn := fun _ => fun
  | [d1, d2] => { results := [.lit (.bool true)], args := [d1, d2] }
  | _ => none }
def fnExactDiffuseRowsRow : OpenClaim := { program := "ytophklfiooklbaa", sum := "11b0e029a26d3bcd7703562d715c8a5fba2ce793e27e8b590ee451043d460945", func := "loop.example/g00987/laws.FnExactDiffuseRows", spec := "fnExactDiffuseRows", apart := false }
def FnExactDiffuseRowsSaid : Prop := fnExactDiffuseRowsRow.holds Try.pinned (OpenSpec.ofChange fnExactDiffuseRowsSpec)

/-- ITS FALSE NEIGHBOUR: 'it returns false'. Refute it at one input. -/
def fnExactDiffuseRowsWrong : ChangeSpec := { name := "fnExactDiffuseRows", fn := fun _ => fun
  | [d1, d2] => { results := [.lit (.bool false)], args := [d1, d2] }
  | _ => none }
def FnExactDiffuseRowsWrongFalsely : Prop := fnExactDiffuseRowsRow.holds Try.pinned (OpenSpec.ofChange fnExactDiffuseRowsWrong)

/-- 'laws.FnPlanes': WHATEVER THE INPUT: true; the input reads as it did. -/
def fnPlanesSpec : ChangeSpec := { name := "fnPlanes", fn := fun _ => fun
  | [d] => { results := [.lit (.bool true)], args := [d] }
  | _ => none }
def fnPlanesRow : OpenClaim := { program := "ytophklfiooklbaa", sum := "11b0e029a26d3bcd7703562d715c8a5fba2ce793e27e8b590ee451043d460945", func := "loop.example/g00987/laws.FnPlanes", spec := "fnPlanes", unfollowed := true, recurses := true, apart := false }
def FnPlanesSaid : Prop := fnPlanesRow.holds Try.pinned (OpenSpec.ofChange fnPlanesSpec)

/-- ITS FALSE NEIGHBOUR: 'it returns false'. Refute it at one input. -/
def fnPlanesWrong : ChangeSpec := { name := "fnPlanes", fn := fun _ => fun
  | [d] => { results := [.lit (.bool false)], args := [d] }
  | _ => none }
def FnPlanesWrongFalsely : Prop := fnPlanesRow.holds Try.pinned (OpenSpec.ofChange fnPlanesWrong)

/- THE SECOND FORM. 'bulk': how many values and letters a reading holds, each counted each time it is reached (what is shared counts as often as it is met; a slice's spare places count too). A statement '..UptoSaid' is the law's where the arguments, and the package variables that the reading takes, are together of bulk at most 1048576: NARROWER than '..Said'. Prove '..Said' where nothing that the law and all that it calls make is longer than what came in: it says more and counts as full. Else prove '..UptoSaid'. A law counts once. -/
mutual
def uptoBulk {H : Type} : DataW H → Nat
  | .lit (.string bytes) => bytes.length + 1
  | .lit _ => 1
  | .nil => 1
  | .ptr d => uptoBulk d + 1
  | .slice elems spare => uptoBulkAll elems + uptoBulkAll spare + 1
  | .agg parts => uptoBulkAll parts + 1
  | .iface _ d => uptoBulk d + 1
  | .map entries => uptoBulkEntries entries + 1
  | .held _ => 1
def uptoBulkAll {H : Type} : List (DataW H) → Nat
  | [] => 0
  | d :: r => uptoBulk d + uptoBulkAll r
def uptoBulkEntries {H : Type} : List (Lit × DataW H) → Nat
  | [] => 0
  | x :: r => uptoBulkEntry x + uptoBulkEntries r
def uptoBulkEntry {H : Type} : Lit × DataW H → Nat
  | (.string bytes, d) => bytes.length + uptoBulk d + 1
  | (_, d) => uptoBulk d + 1
 end
def uptoSmall : (H : Type) → List (DataW H) → Bool := fun _ ds => decide (uptoBulkAll ds ≤ 1048576)
def OpenSpec.upto (s : _root_.Go.ChangeSpec) : _root_.Go.OpenSpec := { _root_.Go.OpenSpec.ofChange s with cond := some uptoSmall }

/-- 'laws.FnDiffusion', WHERE WHAT IT READS IS OF BULK AT MOST 1048576: true; the input reads as it did. -/
def fnDiffusionUptoRow : OpenClaim := { program := "ytophklfiooklbaa", sum := "11b0e029a26d3bcd7703562d715c8a5fba2ce793e27e8b590ee451043d460945", func := "loop.example/g00987/laws.FnDiffusion", spec := "fnDiffusion", unfollowed := true, recurses := true, apart := false, narrowed := true }
def FnDiffusionUptoSaid : Prop := fnDiffusionUptoRow.holds Try.pinned (OpenSpec.upto fnDiffusionSpec)

/-- 'laws.FnExactBitsOk', WHERE WHAT IT READS IS OF BULK AT MOST 1048576: true; the input reads as it did. -/
def fnExactBitsOkUptoRow : OpenClaim := { program := "ytophklfiooklbaa", sum := "11b0e029a26d3bcd7703562d715c8a5fba2ce793e27e8b590ee451043d460945", func := "loop.example/g00987/laws.FnExactBitsOk", spec := "fnExactBitsOk", apart := false, narrowed := true }
def FnExactBitsOkUptoSaid : Prop := fnExactBitsOkUptoRow.holds Try.pinned (OpenSpec.upto fnExactBitsOkSpec)

/-- 'laws.FnSums', WHERE WHAT IT READS IS OF BULK AT MOST 1048576: true; the input reads as it did. -/
def fnSumsUptoRow : OpenClaim := { program := "ytophklfiooklbaa", sum := "11b0e029a26d3bcd7703562d715c8a5fba2ce793e27e8b590ee451043d460945", func := "loop.example/g00987/laws.FnSums", spec := "fnSums", apart := false, narrowed := true }
def FnSumsUptoSaid : Prop := fnSumsUptoRow.holds Try.pinned (OpenSpec.upto fnSumsSpec)

/-- 'laws.FnExactDiffuseRow', WHERE WHAT IT READS IS OF BULK AT MOST 1048576: true; the input reads as it did. -/
def fnExactDiffuseRowUptoRow : OpenClaim := { program := "ytophklfiooklbaa", sum := "11b0e029a26d3bcd7703562d715c8a5fba2ce793e27e8b590ee451043d460945", func := "loop.example/g00987/laws.FnExactDiffuseRow", spec := "fnExactDiffuseRow", apart := false, narrowed := true }
def FnExactDiffuseRowUptoSaid : Prop := fnExactDiffuseRowUptoRow.holds Try.pinned (OpenSpec.upto fnExactDiffuseRowSpec)

/-- 'laws.FnExactCountOnes', WHERE WHAT IT READS IS OF BULK AT MOST 1048576: true; the input reads as it did. -/
def fnExactCountOnesUptoRow : OpenClaim := { program := "ytophklfiooklbaa", sum := "11b0e029a26d3bcd7703562d715c8a5fba2ce793e27e8b590ee451043d460945", func := "loop.example/g00987/laws.FnExactCountOnes", spec := "fnExactCountOnes", apart := false, narrowed := true }
def FnExactCountOnesUptoSaid : Prop := fnExactCountOnesUptoRow.holds Try.pinned (OpenSpec.upto fnExactCountOnesSpec)

/-- 'laws.FnExactDropUnder', WHERE WHAT IT READS IS OF BULK AT MOST 1048576: true; the input reads as it did. -/
def fnExactDropUnderUptoRow : OpenClaim := { program := "ytophklfiooklbaa", sum := "11b0e029a26d3bcd7703562d715c8a5fba2ce793e27e8b590ee451043d460945", func := "loop.example/g00987/laws.FnExactDropUnder", spec := "fnExactDropUnder", apart := false, narrowed := true }
def FnExactDropUnderUptoSaid : Prop := fnExactDropUnderUptoRow.holds Try.pinned (OpenSpec.upto fnExactDropUnderSpec)

/-- 'laws.FnExactPlaneOf', WHERE WHAT IT READS IS OF BULK AT MOST 1048576: true; the input reads as it did. -/
def fnExactPlaneOfUptoRow : OpenClaim := { program := "ytophklfiooklbaa", sum := "11b0e029a26d3bcd7703562d715c8a5fba2ce793e27e8b590ee451043d460945", func := "loop.example/g00987/laws.FnExactPlaneOf", spec := "fnExactPlaneOf", apart := false, narrowed := true }
def FnExactPlaneOfUptoSaid : Prop := fnExactPlaneOfUptoRow.holds Try.pinned (OpenSpec.upto fnExactPlaneOfSpec)

/-- 'laws.FnExactPackPlanes', WHERE WHAT IT READS IS OF BULK AT MOST 1048576: true; the input reads as it did. -/
def fnExactPackPlanesUptoRow : OpenClaim := { program := "ytophklfiooklbaa", sum := "11b0e029a26d3bcd7703562d715c8a5fba2ce793e27e8b590ee451043d460945", func := "loop.example/g00987/laws.FnExactPackPlanes", spec := "fnExactPackPlanes", apart := false, narrowed := true }
def FnExactPackPlanesUptoSaid : Prop := fnExactPackPlanesUptoRow.holds Try.pinned (OpenSpec.upto fnExactPackPlanesSpec)

/-- 'laws.FnExactCountInk', WHERE WHAT IT READS IS OF BULK AT MOST 1048576: true; the input reads as it did. -/
def fnExactCountInkUptoRow : OpenClaim := { program := "ytophklfiooklbaa", sum := "11b0e029a26d3bcd7703562d715c8a5fba2ce793e27e8b590ee451043d460945", func := "loop.example/g00987/laws.FnExactCountInk", spec := "fnExactCountInk", apart := false, narrowed := true }
def FnExactCountInkUptoSaid : Prop := fnExactCountInkUptoRow.holds Try.pinned (OpenSpec.upto fnExactCountInkSpec)

/-- 'laws.FnExactDiffuseRows', WHERE WHAT IT READS IS OF BULK AT MOST 1048576: true; the input reads as it did. -/
def fnExactDiffuseRowsUptoRow : OpenClaim := { program := "ytophklfiooklbaa", sum := "11b0e029a26d3bcd7703562d715c8a5fba2ce793e27e8b590ee451043d460945", func := "loop.example/g00987/laws.FnExactDiffuseRows", spec := "fnExactDiffuseRows", apart := false, narrowed := true }
def FnExactDiffuseRowsUptoSaid : Prop := fnExactDiffuseRowsUptoRow.holds Try.pinned (OpenSpec.upto fnExactDiffuseRowsSpec)

/-- 'laws.FnPlanes', WHERE WHAT IT READS IS OF BULK AT MOST 1048576: true; the input reads as it did. -/
def fnPlanesUptoRow : OpenClaim := { program := "ytophklfiooklbaa", sum := "11b0e029a26d3bcd7703562d715c8a5fba2ce793e27e8b590ee451043d460945", func := "loop.example/g00987/laws.FnPlanes", spec := "fnPlanes", unfollowed := true, recurses := true, apart := false, narrowed := true }
def FnPlanesUptoSaid : Prop := fnPlanesUptoRow.holds Try.pinned (OpenSpec.upto fnPlanesSpec)

end Rows
end Go.Proofs.Ytophklfiooklbaa
