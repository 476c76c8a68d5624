/-
  No cell of these rows narrows 'for every input' (looked for: loops, veiled, ifaces, maps, wideKeys, modest, calm, conditions, laid).
  DERIVED. THE GIVEN ROWS OF THIS SEAT. 8 by the template 'for every input the law returns true; each argument reads behind the call as it read before'; 0 by the template 'total and deterministic' (their statements: YtjkddcnflpfinaaTotals.lean).
  GIVEN WITH THE SEED: the statements are not yours to turn. If you find one false, say at which input.
  Laid BY PROGRAM, IN A SANDBOX (cutbox-rows.mjs): the forced cells as the released guide's own fill.sh prints them over the translation 7937e3e604500df6… (all of the seat's roots in one cut). By AI agents, Wed Nov 11 2026. No macro, syntax, notation, axiom, sorry.
-/
import Derived.Test.YtjkddcnflpfinaaChecked
import GoSem.Claim
import GoSem.ClaimJoined
import GoSem.ClaimMapViews
import Derived.JoinedTies
import Derived.KernelRfl
namespace Go.Proofs.Ytjkddcnflpfinaa
/- THE CELL 'sum', in the pinned program and in every row, IS THE sha256 OF THE DUMP (.gsa) THAT YtjkddcnflpfinaaProg.lean LOADS. Nothing in Lean hashes anything: it is a label: what it is worth is what the hold of that sum in a sandbox is worth. -/
noncomputable def Try.pinned : Pinned := { name := "ytjkddcnflpfinaa", sum := "7937e3e604500df6753f4018e7b31c9763381a202dde45b1df830b10e08e972a", checked := Try.checked }
namespace Rows
def none {H : Type} : Left H := { results := [], args := [] }

/-- 'laws.FnBits': WHATEVER THE INPUT: true; the input reads as it did. -/
def fnBitsSpec : ChangeSpec := { name := "fnBits", fn := fun _ => fun
  | [d] => { results := [.lit (.bool true)], args := [d] }
  | _ => none }
def fnBitsRow : OpenClaim := { program := "ytjkddcnflpfinaa", sum := "7937e3e604500df6753f4018e7b31c9763381a202dde45b1df830b10e08e972a", func := "loop.example/g00987/laws.FnBits", spec := "fnBits", unfollowed := true, recurses := true, apart := false }
def FnBitsSaid : Prop := fnBitsRow.holds Try.pinned (OpenSpec.ofChange fnBitsSpec)

/-- ITS FALSE NEIGHBOUR: 'it returns false'. Refute it at one input. -/
def fnBitsWrong : ChangeSpec := { name := "fnBits", fn := fun _ => fun
  | [d] => { results := [.lit (.bool false)], args := [d] }
  | _ => none }
def FnBitsWrongFalsely : Prop := fnBitsRow.holds Try.pinned (OpenSpec.ofChange fnBitsWrong)

/-- 'laws.FnTraps': WHATEVER THE INPUT: true; the input reads as it did. -/
def fnTrapsSpec : ChangeSpec := { name := "fnTraps", fn := fun _ => fun
  | [d] => { results := [.lit (.bool true)], args := [d] }
  | _ => none }
def fnTrapsRow : OpenClaim := { program := "ytjkddcnflpfinaa", sum := "7937e3e604500df6753f4018e7b31c9763381a202dde45b1df830b10e08e972a", func := "loop.example/g00987/laws.FnTraps", spec := "fnTraps", unfollowed := true, recurses := true, apart := false }
def FnTrapsSaid : Prop := fnTrapsRow.holds Try.pinned (OpenSpec.ofChange fnTrapsSpec)

/-- ITS FALSE NEIGHBOUR: 'it returns false'. Refute it at one input. -/
def fnTrapsWrong : ChangeSpec := { name := "fnTraps", fn := fun _ => fun
  | [d] => { results := [.lit (.bool false)], args := [d] }
  | _ => none }
def FnTrapsWrongFalsely : Prop := fnTrapsRow.holds Try.pinned (OpenSpec.ofChange fnTrapsWrong)

/-- 'laws.FnExactSpreadBits': WHATEVER THE INPUT: true; the input reads as it did. -/
def fnExactSpreadBitsSpec : ChangeSpec := { name := "fnExactSpreadBits", fn := fun _ => fun
  | [d] => { results := [.lit (.bool true)], args := [d] }
  | _ => none }
def fnExactSpreadBitsRow : OpenClaim := { program := "ytjkddcnflpfinaa", sum := "7937e3e604500df6753f4018e7b31c9763381a202dde45b1df830b10e08e972a", func := "loop.example/g00987/laws.FnExactSpreadBits", spec := "fnExactSpreadBits", unfollowed := true, recurses := true, apart := false }
def FnExactSpreadBitsSaid : Prop := fnExactSpreadBitsRow.holds Try.pinned (OpenSpec.ofChange fnExactSpreadBitsSpec)

/-- ITS FALSE NEIGHBOUR: 'it returns false'. Refute it at one input. -/
def fnExactSpreadBitsWrong : ChangeSpec := { name := "fnExactSpreadBits", fn := fun _ => fun
  | [d] => { results := [.lit (.bool false)], args := [d] }
  | _ => none }
def FnExactSpreadBitsWrongFalsely : Prop := fnExactSpreadBitsRow.holds Try.pinned (OpenSpec.ofChange fnExactSpreadBitsWrong)

/-- 'laws.FnExactJoinBits': WHATEVER THE INPUT: true; the input reads as it did. -/
def fnExactJoinBitsSpec : ChangeSpec := { name := "fnExactJoinBits", fn := fun _ => fun
  | [d1, d2] => { results := [.lit (.bool true)], args := [d1, d2] }
  | _ => none }
def fnExactJoinBitsRow : OpenClaim := { program := "ytjkddcnflpfinaa", sum := "7937e3e604500df6753f4018e7b31c9763381a202dde45b1df830b10e08e972a", func := "loop.example/g00987/laws.FnExactJoinBits", spec := "fnExactJoinBits", unfollowed := true, recurses := true, apart := false }
def FnExactJoinBitsSaid : Prop := fnExactJoinBitsRow.holds Try.pinned (OpenSpec.ofChange fnExactJoinBitsSpec)

/-- ITS FALSE NEIGHBOUR: 'it returns false'. Refute it at one input. -/
def fnExactJoinBitsWrong : ChangeSpec := { name := "fnExactJoinBits", fn := fun _ => fun
  | [d1, d2] => { results := [.lit (.bool false)], args := [d1, d2] }
  | _ => none }
def FnExactJoinBitsWrongFalsely : Prop := fnExactJoinBitsRow.holds Try.pinned (OpenSpec.ofChange fnExactJoinBitsWrong)

/-- 'laws.FnExactMeetBits': WHATEVER THE INPUT: true; the input reads as it did. -/
def fnExactMeetBitsSpec : ChangeSpec := { name := "fnExactMeetBits", fn := fun _ => fun
  | [d1, d2] => { results := [.lit (.bool true)], args := [d1, d2] }
  | _ => none }
def fnExactMeetBitsRow : OpenClaim := { program := "ytjkddcnflpfinaa", sum := "7937e3e604500df6753f4018e7b31c9763381a202dde45b1df830b10e08e972a", func := "loop.example/g00987/laws.FnExactMeetBits", spec := "fnExactMeetBits", unfollowed := true, recurses := true, apart := false }
def FnExactMeetBitsSaid : Prop := fnExactMeetBitsRow.holds Try.pinned (OpenSpec.ofChange fnExactMeetBitsSpec)

/-- ITS FALSE NEIGHBOUR: 'it returns false'. Refute it at one input. -/
def fnExactMeetBitsWrong : ChangeSpec := { name := "fnExactMeetBits", fn := fun _ => fun
  | [d1, d2] => { results := [.lit (.bool false)], args := [d1, d2] }
  | _ => none }
def FnExactMeetBitsWrongFalsely : Prop := fnExactMeetBitsRow.holds Try.pinned (OpenSpec.ofChange fnExactMeetBitsWrong)

/-- 'laws.FnPlaced': WHATEVER THE INPUT: true; the input reads as it did. -/
def fnPlacedSpec : ChangeSpec := { name := "fnPlaced", fn := fun _ => fun
  | [d] => { results := [.lit (.bool true)], args := [d] }
  | _ => none }
def fnPlacedRow : OpenClaim := { program := "ytjkddcnflpfinaa", sum := "7937e3e604500df6753f4018e7b31c9763381a202dde45b1df830b10e08e972a", func := "loop.example/g00987/laws.FnPlaced", spec := "fnPlaced", unfollowed := true, recurses := true, apart := false }
def FnPlacedSaid : Prop := fnPlacedRow.holds Try.pinned (OpenSpec.ofChange fnPlacedSpec)

/-- ITS FALSE NEIGHBOUR: 'it returns false'. Refute it at one input. -/
def fnPlacedWrong : ChangeSpec := { name := "fnPlaced", fn := fun _ => fun
  | [d] => { results := [.lit (.bool false)], args := [d] }
  | _ => none }
def FnPlacedWrongFalsely : Prop := fnPlacedRow.holds Try.pinned (OpenSpec.ofChange fnPlacedWrong)

/-- 'laws.FnExactTrapBits': WHATEVER THE INPUT: true; the input reads as it did. -/
def fnExactTrapBitsSpec : ChangeSpec := { name := "fnExactTrapBits", fn := fun _ => fun
  | [d1, d2] => { results := [.lit (.bool true)], args := [d1, d2] }
  | _ => none }
def fnExactTrapBitsRow : OpenClaim := { program := "ytjkddcnflpfinaa", sum := "7937e3e604500df6753f4018e7b31c9763381a202dde45b1df830b10e08e972a", func := "loop.example/g00987/laws.FnExactTrapBits", spec := "fnExactTrapBits", unfollowed := true, recurses := true, apart := false }
def FnExactTrapBitsSaid : Prop := fnExactTrapBitsRow.holds Try.pinned (OpenSpec.ofChange fnExactTrapBitsSpec)

/-- ITS FALSE NEIGHBOUR: 'it returns false'. Refute it at one input. -/
def fnExactTrapBitsWrong : ChangeSpec := { name := "fnExactTrapBits", fn := fun _ => fun
  | [d1, d2] => { results := [.lit (.bool false)], args := [d1, d2] }
  | _ => none }
def FnExactTrapBitsWrongFalsely : Prop := fnExactTrapBitsRow.holds Try.pinned (OpenSpec.ofChange fnExactTrapBitsWrong)

/-- 'laws.FnExactPlaceGlyph': WHATEVER THE INPUT: true; the input reads as it did. -/
def fnExactPlaceGlyphSpec : ChangeSpec := { name := "fnExactPlaceGlyph", fn := fun _ => fun
  | [d1, d2, d3, d4] => { results := [.lit (.bool true)], args := [d1, d2, d3, d4] }
  | _ => none }
def fnExactPlaceGlyphRow : OpenClaim := { program := "ytjkddcnflpfinaa", sum := "7937e3e604500df6753f4018e7b31c9763381a202dde45b1df830b10e08e972a", func := "loop.example/g00987/laws.FnExactPlaceGlyph", spec := "fnExactPlaceGlyph", apart := false }
def FnExactPlaceGlyphSaid : Prop := fnExactPlaceGlyphRow.holds Try.pinned (OpenSpec.ofChange fnExactPlaceGlyphSpec)

/-- ITS FALSE NEIGHBOUR: 'it returns false'. Refute it at one input. -/
def fnExactPlaceGlyphWrong : ChangeSpec := { name := "fnExactPlaceGlyph", fn := fun _ => fun
  | [d1, d2, d3, d4] => { results := [.lit (.bool false)], args := [d1, d2, d3, d4] }
  | _ => none }
def FnExactPlaceGlyphWrongFalsely : Prop := fnExactPlaceGlyphRow.holds Try.pinned (OpenSpec.ofChange fnExactPlaceGlyphWrong)

/- THE SECOND FORM. 'bulk': how many values and letters a reading holds, each counted each time it is reached (what is shared counts as often as it is met; a slice's spare places count too). A statement '..UptoSaid' is the law's where the arguments, and the package variables that the reading takes, are together of bulk at most 1048576: NARROWER than '..Said'. Prove '..Said' where nothing that the law and all that it calls make is longer than what came in: it says more and counts as full. Else prove '..UptoSaid'. A law counts once. -/
mutual
def uptoBulk {H : Type} : DataW H → Nat
  | .lit (.string bytes) => bytes.length + 1
  | .lit _ => 1
  | .nil => 1
  | .ptr d => uptoBulk d + 1
  | .slice elems spare => uptoBulkAll elems + uptoBulkAll spare + 1
  | .agg parts => uptoBulkAll parts + 1
  | .iface _ d => uptoBulk d + 1
  | .map entries => uptoBulkEntries entries + 1
  | .held _ => 1
def uptoBulkAll {H : Type} : List (DataW H) → Nat
  | [] => 0
  | d :: r => uptoBulk d + uptoBulkAll r
def uptoBulkEntries {H : Type} : List (Lit × DataW H) → Nat
  | [] => 0
  | x :: r => uptoBulkEntry x + uptoBulkEntries r
def uptoBulkEntry {H : Type} : Lit × DataW H → Nat
  | (.string bytes, d) => bytes.length + uptoBulk d + 1
  | (_, d) => uptoBulk d + 1
 end
def uptoSmall : (H : Type) → List (DataW H) → Bool := fun _ ds => decide (uptoBulkAll ds ≤ 1048576)
def OpenSpec.upto (s : _root_.Go.ChangeSpec) : _root_.Go.OpenSpec := { _root_.Go.OpenSpec.ofChange s with cond := some uptoSmall }

/-- 'laws.FnBits', WHERE WHAT IT READS IS OF BULK AT MOST 1048576: true; the input reads as it did. -/
def fnBitsUptoRow : OpenClaim := { program := "ytjkddcnflpfinaa", sum := "7937e3e604500df6753f4018e7b31c9763381a202dde45b1df830b10e08e972a", func := "loop.example/g00987/laws.FnBits", spec := "fnBits", unfollowed := true, recurses := true, apart := false, narrowed := true }
def FnBitsUptoSaid : Prop := fnBitsUptoRow.holds Try.pinned (OpenSpec.upto fnBitsSpec)

/-- 'laws.FnTraps', WHERE WHAT IT READS IS OF BULK AT MOST 1048576: true; the input reads as it did. -/
def fnTrapsUptoRow : OpenClaim := { program := "ytjkddcnflpfinaa", sum := "7937e3e604500df6753f4018e7b31c9763381a202dde45b1df830b10e08e972a", func := "loop.example/g00987/laws.FnTraps", spec := "fnTraps", unfollowed := true, recurses := true, apart := false, narrowed := true }
def FnTrapsUptoSaid : Prop := fnTrapsUptoRow.holds Try.pinned (OpenSpec.upto fnTrapsSpec)

/-- 'laws.FnExactSpreadBits', WHERE WHAT IT READS IS OF BULK AT MOST 1048576: true; the input reads as it did. -/
def fnExactSpreadBitsUptoRow : OpenClaim := { program := "ytjkddcnflpfinaa", sum := "7937e3e604500df6753f4018e7b31c9763381a202dde45b1df830b10e08e972a", func := "loop.example/g00987/laws.FnExactSpreadBits", spec := "fnExactSpreadBits", unfollowed := true, recurses := true, apart := false, narrowed := true }
def FnExactSpreadBitsUptoSaid : Prop := fnExactSpreadBitsUptoRow.holds Try.pinned (OpenSpec.upto fnExactSpreadBitsSpec)

/-- 'laws.FnExactJoinBits', WHERE WHAT IT READS IS OF BULK AT MOST 1048576: true; the input reads as it did. -/
def fnExactJoinBitsUptoRow : OpenClaim := { program := "ytjkddcnflpfinaa", sum := "7937e3e604500df6753f4018e7b31c9763381a202dde45b1df830b10e08e972a", func := "loop.example/g00987/laws.FnExactJoinBits", spec := "fnExactJoinBits", unfollowed := true, recurses := true, apart := false, narrowed := true }
def FnExactJoinBitsUptoSaid : Prop := fnExactJoinBitsUptoRow.holds Try.pinned (OpenSpec.upto fnExactJoinBitsSpec)

/-- 'laws.FnExactMeetBits', WHERE WHAT IT READS IS OF BULK AT MOST 1048576: true; the input reads as it did. -/
def fnExactMeetBitsUptoRow : OpenClaim := { program := "ytjkddcnflpfinaa", sum := "7937e3e604500df6753f4018e7b31c9763381a202dde45b1df830b10e08e972a", func := "loop.example/g00987/laws.FnExactMeetBits", spec := "fnExactMeetBits", unfollowed := true, recurses := true, apart := false, narrowed := true }
def FnExactMeetBitsUptoSaid : Prop := fnExactMeetBitsUptoRow.holds Try.pinned (OpenSpec.upto fnExactMeetBitsSpec)

/-- 'laws.FnPlaced', WHERE WHAT IT READS IS OF BULK AT MOST 1048576: true; the input reads as it did. -/
def fnPlacedUptoRow : OpenClaim := { program := "ytjkddcnflpfinaa", sum := "7937e3e604500df6753f4018e7b31c9763381a202dde45b1df830b10e08e972a", func := "loop.example/g00987/laws.FnPlaced", spec := "fnPlaced", unfollowed := true, recurses := true, apart := false, narrowed := true }
def FnPlacedUptoSaid : Prop := fnPlacedUptoRow.holds Try.pinned (OpenSpec.upto fnPlacedSpec)

/-- 'laws.FnExactTrapBits', WHERE WHAT IT READS IS OF BULK AT MOST 1048576: true; the input reads as it did. -/
def fnExactTrapBitsUptoRow : OpenClaim := { program := "ytjkddcnflpfinaa", sum := "7937e3e604500df6753f4018e7b31c9763381a202dde45b1df830b10e08e972a", func := "loop.example/g00987/laws.FnExactTrapBits", spec := "fnExactTrapBits", unfollowed := true, recurses := true, apart := false, narrowed := true }
def FnExactTrapBitsUptoSaid : Prop := fnExactTrapBitsUptoRow.holds Try.pinned (OpenSpec.upto fnExactTrapBitsSpec)

/-- 'laws.FnExactPlaceGlyph', WHERE WHAT IT READS IS OF BULK AT MOST 1048576: true; the input reads as it did. -/
def fnExactPlaceGlyphUptoRow : OpenClaim := { program := "ytjkddcnflpfinaa", sum := "7937e3e604500df6753f4018e7b31c9763381a202dde45b1df830b10e08e972a", func := "loop.example/g00987/laws.FnExactPlaceGlyph", spec := "fnExactPlaceGlyph", apart := false, narrowed := true }
def FnExactPlaceGlyphUptoSaid : Prop := fnExactPlaceGlyphUptoRow.holds Try.pinned (OpenSpec.upto fnExactPlaceGlyphSpec)

end Rows
end Go.Proofs.Ytjkddcnflpfinaa
