/-
  No cell of these rows narrows 'for every input' (looked for: loops, veiled, ifaces, maps, wideKeys, modest, calm, conditions, laid).
  DERIVED. THE GIVEN ROWS OF THIS SEAT. 12 by the template 'for every input the law returns true; each argument reads behind the call as it read before'; 0 by the template 'total and deterministic' (their statements: YtcjkndcmeedneaaTotals.lean).
  GIVEN WITH THE SEED: the statements are not yours to turn. If you find one false, say at which input.
  Laid BY PROGRAM, IN A SANDBOX (cutbox-rows.mjs): the forced cells as the released guide's own fill.sh prints them over the translation dd0b629d5599cb3b… (all of the seat's roots in one cut). By AI agents, Wed Nov 11 2026. No macro, syntax, notation, axiom, sorry.
-/
import Derived.Test.YtcjkndcmeedneaaChecked
import GoSem.Claim
import GoSem.ClaimJoined
import GoSem.ClaimMapViews
import Derived.JoinedTies
import Derived.KernelRfl
namespace Go.Proofs.Ytcjkndcmeedneaa
/- THE CELL 'sum', in the pinned program and in every row, IS THE sha256 OF THE DUMP (.gsa) THAT YtcjkndcmeedneaaProg.lean LOADS. Nothing in Lean hashes anything: it is a label: what it is worth is what the hold of that sum in a sandbox is worth. -/
noncomputable def Try.pinned : Pinned := { name := "ytcjkndcmeedneaa", sum := "dd0b629d5599cb3bff0e909230d7cf7dd6abfe0deafa5a5cb661f213f5e58270", checked := Try.checked }
namespace Rows
def none {H : Type} : Left H := { results := [], args := [] }

/-- 'laws.FnDeadlines': WHATEVER THE INPUT: true; the input reads as it did. -/
def fnDeadlinesSpec : ChangeSpec := { name := "fnDeadlines", fn := fun _ => fun
  | [d] => { results := [.lit (.bool true)], args := [d] }
  | _ => none }
def fnDeadlinesRow : OpenClaim := { program := "ytcjkndcmeedneaa", sum := "dd0b629d5599cb3bff0e909230d7cf7dd6abfe0deafa5a5cb661f213f5e58270", func := "loop.example/g00987/laws.FnDeadlines", spec := "fnDeadlines", apart := false }
def FnDeadlinesSaid : Prop := fnDeadlinesRow.holds Try.pinned (OpenSpec.ofChange fnDeadlinesSpec)

/-- ITS FALSE NEIGHBOUR: 'it returns false'. Refute it at one input. -/
def fnDeadlinesWrong : ChangeSpec := { name := "fnDeadlines", fn := fun _ => fun
  | [d] => { results := [.lit (.bool false)], args := [d] }
  | _ => none }
def FnDeadlinesWrongFalsely : Prop := fnDeadlinesRow.holds Try.pinned (OpenSpec.ofChange fnDeadlinesWrong)

/-- 'laws.FnExactGlyphOk': WHATEVER THE INPUT: true; the input reads as it did. -/
def fnExactGlyphOkSpec : ChangeSpec := { name := "fnExactGlyphOk", fn := fun _ => fun
  | [d] => { results := [.lit (.bool true)], args := [d] }
  | _ => none }
def fnExactGlyphOkRow : OpenClaim := { program := "ytcjkndcmeedneaa", sum := "dd0b629d5599cb3bff0e909230d7cf7dd6abfe0deafa5a5cb661f213f5e58270", func := "loop.example/g00987/laws.FnExactGlyphOk", spec := "fnExactGlyphOk", apart := false }
def FnExactGlyphOkSaid : Prop := fnExactGlyphOkRow.holds Try.pinned (OpenSpec.ofChange fnExactGlyphOkSpec)

/-- ITS FALSE NEIGHBOUR: 'it returns false'. Refute it at one input. -/
def fnExactGlyphOkWrong : ChangeSpec := { name := "fnExactGlyphOk", fn := fun _ => fun
  | [d] => { results := [.lit (.bool false)], args := [d] }
  | _ => none }
def FnExactGlyphOkWrongFalsely : Prop := fnExactGlyphOkRow.holds Try.pinned (OpenSpec.ofChange fnExactGlyphOkWrong)

/-- 'laws.FnExactGlyphDot': WHATEVER THE INPUT: true; the input reads as it did. -/
def fnExactGlyphDotSpec : ChangeSpec := { name := "fnExactGlyphDot", fn := fun _ => fun
  | [d1, d2, d3] => { results := [.lit (.bool true)], args := [d1, d2, d3] }
  | _ => none }
def fnExactGlyphDotRow : OpenClaim := { program := "ytcjkndcmeedneaa", sum := "dd0b629d5599cb3bff0e909230d7cf7dd6abfe0deafa5a5cb661f213f5e58270", func := "loop.example/g00987/laws.FnExactGlyphDot", spec := "fnExactGlyphDot", apart := false }
def FnExactGlyphDotSaid : Prop := fnExactGlyphDotRow.holds Try.pinned (OpenSpec.ofChange fnExactGlyphDotSpec)

/-- ITS FALSE NEIGHBOUR: 'it returns false'. Refute it at one input. -/
def fnExactGlyphDotWrong : ChangeSpec := { name := "fnExactGlyphDot", fn := fun _ => fun
  | [d1, d2, d3] => { results := [.lit (.bool false)], args := [d1, d2, d3] }
  | _ => none }
def FnExactGlyphDotWrongFalsely : Prop := fnExactGlyphDotRow.holds Try.pinned (OpenSpec.ofChange fnExactGlyphDotWrong)

/-- 'laws.FnExactPrepaintBands': WHATEVER THE INPUT: true; the input reads as it did. -/
def fnExactPrepaintBandsSpec : ChangeSpec := { name := "fnExactPrepaintBands", fn := fun _ => fun
  | [d1, d2] => { results := [.lit (.bool true)], args := [d1, d2] }
  | _ => none }
def fnExactPrepaintBandsRow : OpenClaim := { program := "ytcjkndcmeedneaa", sum := "dd0b629d5599cb3bff0e909230d7cf7dd6abfe0deafa5a5cb661f213f5e58270", func := "loop.example/g00987/laws.FnExactPrepaintBands", spec := "fnExactPrepaintBands", apart := false }
def FnExactPrepaintBandsSaid : Prop := fnExactPrepaintBandsRow.holds Try.pinned (OpenSpec.ofChange fnExactPrepaintBandsSpec)

/-- ITS FALSE NEIGHBOUR: 'it returns false'. Refute it at one input. -/
def fnExactPrepaintBandsWrong : ChangeSpec := { name := "fnExactPrepaintBands", fn := fun _ => fun
  | [d1, d2] => { results := [.lit (.bool false)], args := [d1, d2] }
  | _ => none }
def FnExactPrepaintBandsWrongFalsely : Prop := fnExactPrepaintBandsRow.holds Try.pinned (OpenSpec.ofChange fnExactPrepaintBandsWrong)

/-- 'laws.FnGlyphs': WHATEVER THE INPUT: true; the input reads as it did. -/
def fnGlyphsSpec : ChangeSpec := { name := "fnGlyphs", fn := fun _ => fun
  | [d] => { results := [.lit (.bool true)], args := [d] }
  | _ => none }
def fnGlyphsRow : OpenClaim := { program := "ytcjkndcmeedneaa", sum := "dd0b629d5599cb3bff0e909230d7cf7dd6abfe0deafa5a5cb661f213f5e58270", func := "loop.example/g00987/laws.FnGlyphs", spec := "fnGlyphs", apart := false }
def FnGlyphsSaid : Prop := fnGlyphsRow.holds Try.pinned (OpenSpec.ofChange fnGlyphsSpec)

/-- ITS FALSE NEIGHBOUR: 'it returns false'. Refute it at one input. -/
def fnGlyphsWrong : ChangeSpec := { name := "fnGlyphs", fn := fun _ => fun
  | [d] => { results := [.lit (.bool false)], args := [d] }
  | _ => none }
def FnGlyphsWrongFalsely : Prop := fnGlyphsRow.holds Try.pinned (OpenSpec.ofChange fnGlyphsWrong)

/-- 'laws.FnExactReadyTimes': WHATEVER THE INPUT: true; the input reads as it did. -/
def fnExactReadyTimesSpec : ChangeSpec := { name := "fnExactReadyTimes", fn := fun _ => fun
  | [d1, d2] => { results := [.lit (.bool true)], args := [d1, d2] }
  | _ => none }
def fnExactReadyTimesRow : OpenClaim := { program := "ytcjkndcmeedneaa", sum := "dd0b629d5599cb3bff0e909230d7cf7dd6abfe0deafa5a5cb661f213f5e58270", func := "loop.example/g00987/laws.FnExactReadyTimes", spec := "fnExactReadyTimes", apart := false }
def FnExactReadyTimesSaid : Prop := fnExactReadyTimesRow.holds Try.pinned (OpenSpec.ofChange fnExactReadyTimesSpec)

/-- ITS FALSE NEIGHBOUR: 'it returns false'. Refute it at one input. -/
def fnExactReadyTimesWrong : ChangeSpec := { name := "fnExactReadyTimes", fn := fun _ => fun
  | [d1, d2] => { results := [.lit (.bool false)], args := [d1, d2] }
  | _ => none }
def FnExactReadyTimesWrongFalsely : Prop := fnExactReadyTimesRow.holds Try.pinned (OpenSpec.ofChange fnExactReadyTimesWrong)

/-- 'laws.FnBuffers': WHATEVER THE INPUT: true; the input reads as it did. -/
def fnBuffersSpec : ChangeSpec := { name := "fnBuffers", fn := fun _ => fun
  | [d] => { results := [.lit (.bool true)], args := [d] }
  | _ => none }
def fnBuffersRow : OpenClaim := { program := "ytcjkndcmeedneaa", sum := "dd0b629d5599cb3bff0e909230d7cf7dd6abfe0deafa5a5cb661f213f5e58270", func := "loop.example/g00987/laws.FnBuffers", spec := "fnBuffers", apart := false }
def FnBuffersSaid : Prop := fnBuffersRow.holds Try.pinned (OpenSpec.ofChange fnBuffersSpec)

/-- ITS FALSE NEIGHBOUR: 'it returns false'. Refute it at one input. -/
def fnBuffersWrong : ChangeSpec := { name := "fnBuffers", fn := fun _ => fun
  | [d] => { results := [.lit (.bool false)], args := [d] }
  | _ => none }
def FnBuffersWrongFalsely : Prop := fnBuffersRow.holds Try.pinned (OpenSpec.ofChange fnBuffersWrong)

/-- 'laws.FnExactGlyphDots': WHATEVER THE INPUT: true; the input reads as it did. -/
def fnExactGlyphDotsSpec : ChangeSpec := { name := "fnExactGlyphDots", fn := fun _ => fun
  | [d] => { results := [.lit (.bool true)], args := [d] }
  | _ => none }
def fnExactGlyphDotsRow : OpenClaim := { program := "ytcjkndcmeedneaa", sum := "dd0b629d5599cb3bff0e909230d7cf7dd6abfe0deafa5a5cb661f213f5e58270", func := "loop.example/g00987/laws.FnExactGlyphDots", spec := "fnExactGlyphDots", apart := false }
def FnExactGlyphDotsSaid : Prop := fnExactGlyphDotsRow.holds Try.pinned (OpenSpec.ofChange fnExactGlyphDotsSpec)

/-- ITS FALSE NEIGHBOUR: 'it returns false'. Refute it at one input. -/
def fnExactGlyphDotsWrong : ChangeSpec := { name := "fnExactGlyphDots", fn := fun _ => fun
  | [d] => { results := [.lit (.bool false)], args := [d] }
  | _ => none }
def FnExactGlyphDotsWrongFalsely : Prop := fnExactGlyphDotsRow.holds Try.pinned (OpenSpec.ofChange fnExactGlyphDotsWrong)

/-- 'laws.FnExactLeastDelay': WHATEVER THE INPUT: true; the input reads as it did. -/
def fnExactLeastDelaySpec : ChangeSpec := { name := "fnExactLeastDelay", fn := fun _ => fun
  | [d1, d2, d3] => { results := [.lit (.bool true)], args := [d1, d2, d3] }
  | _ => none }
def fnExactLeastDelayRow : OpenClaim := { program := "ytcjkndcmeedneaa", sum := "dd0b629d5599cb3bff0e909230d7cf7dd6abfe0deafa5a5cb661f213f5e58270", func := "loop.example/g00987/laws.FnExactLeastDelay", spec := "fnExactLeastDelay", apart := false }
def FnExactLeastDelaySaid : Prop := fnExactLeastDelayRow.holds Try.pinned (OpenSpec.ofChange fnExactLeastDelaySpec)

/-- ITS FALSE NEIGHBOUR: 'it returns false'. Refute it at one input. -/
def fnExactLeastDelayWrong : ChangeSpec := { name := "fnExactLeastDelay", fn := fun _ => fun
  | [d1, d2, d3] => { results := [.lit (.bool false)], args := [d1, d2, d3] }
  | _ => none }
def FnExactLeastDelayWrongFalsely : Prop := fnExactLeastDelayRow.holds Try.pinned (OpenSpec.ofChange fnExactLeastDelayWrong)

/-- 'laws.FnExactLateBands': WHATEVER THE INPUT: true; the input reads as it did. -/
def fnExactLateBandsSpec : ChangeSpec := { name := "fnExactLateBands", fn := fun _ => fun
  | [d1, d2] => { results := [.lit (.bool true)], args := [d1, d2] }
  | _ => none }
def fnExactLateBandsRow : OpenClaim := { program := "ytcjkndcmeedneaa", sum := "dd0b629d5599cb3bff0e909230d7cf7dd6abfe0deafa5a5cb661f213f5e58270", func := "loop.example/g00987/laws.FnExactLateBands", spec := "fnExactLateBands", apart := false }
def FnExactLateBandsSaid : Prop := fnExactLateBandsRow.holds Try.pinned (OpenSpec.ofChange fnExactLateBandsSpec)

/-- ITS FALSE NEIGHBOUR: 'it returns false'. Refute it at one input. -/
def fnExactLateBandsWrong : ChangeSpec := { name := "fnExactLateBands", fn := fun _ => fun
  | [d1, d2] => { results := [.lit (.bool false)], args := [d1, d2] }
  | _ => none }
def FnExactLateBandsWrongFalsely : Prop := fnExactLateBandsRow.holds Try.pinned (OpenSpec.ofChange fnExactLateBandsWrong)

/-- 'laws.FnExactCacheSize': WHATEVER THE INPUT: true; the input reads as it did. -/
def fnExactCacheSizeSpec : ChangeSpec := { name := "fnExactCacheSize", fn := fun _ => fun
  | [d] => { results := [.lit (.bool true)], args := [d] }
  | _ => none }
def fnExactCacheSizeRow : OpenClaim := { program := "ytcjkndcmeedneaa", sum := "dd0b629d5599cb3bff0e909230d7cf7dd6abfe0deafa5a5cb661f213f5e58270", func := "loop.example/g00987/laws.FnExactCacheSize", spec := "fnExactCacheSize", apart := false }
def FnExactCacheSizeSaid : Prop := fnExactCacheSizeRow.holds Try.pinned (OpenSpec.ofChange fnExactCacheSizeSpec)

/-- ITS FALSE NEIGHBOUR: 'it returns false'. Refute it at one input. -/
def fnExactCacheSizeWrong : ChangeSpec := { name := "fnExactCacheSize", fn := fun _ => fun
  | [d] => { results := [.lit (.bool false)], args := [d] }
  | _ => none }
def FnExactCacheSizeWrongFalsely : Prop := fnExactCacheSizeRow.holds Try.pinned (OpenSpec.ofChange fnExactCacheSizeWrong)

/-- 'laws.FnExactTurnGlyph': WHATEVER THE INPUT: true; the input reads as it did. -/
def fnExactTurnGlyphSpec : ChangeSpec := { name := "fnExactTurnGlyph", fn := fun _ => fun
  | [d] => { results := [.lit (.bool true)], args := [d] }
  | _ => none }
def fnExactTurnGlyphRow : OpenClaim := { program := "ytcjkndcmeedneaa", sum := "dd0b629d5599cb3bff0e909230d7cf7dd6abfe0deafa5a5cb661f213f5e58270", func := "loop.example/g00987/laws.FnExactTurnGlyph", spec := "fnExactTurnGlyph", apart := false }
def FnExactTurnGlyphSaid : Prop := fnExactTurnGlyphRow.holds Try.pinned (OpenSpec.ofChange fnExactTurnGlyphSpec)

/-- ITS FALSE NEIGHBOUR: 'it returns false'. Refute it at one input. -/
def fnExactTurnGlyphWrong : ChangeSpec := { name := "fnExactTurnGlyph", fn := fun _ => fun
  | [d] => { results := [.lit (.bool false)], args := [d] }
  | _ => none }
def FnExactTurnGlyphWrongFalsely : Prop := fnExactTurnGlyphRow.holds Try.pinned (OpenSpec.ofChange fnExactTurnGlyphWrong)

/- THE SECOND FORM. 'bulk': how many values and letters a reading holds, each counted each time it is reached (what is shared counts as often as it is met; a slice's spare places count too). A statement '..UptoSaid' is the law's where the arguments, and the package variables that the reading takes, are together of bulk at most 1048576: NARROWER than '..Said'. Prove '..Said' where nothing that the law and all that it calls make is longer than what came in: it says more and counts as full. Else prove '..UptoSaid'. A law counts once. -/
mutual
def uptoBulk {H : Type} : DataW H → Nat
  | .lit (.string bytes) => bytes.length + 1
  | .lit _ => 1
  | .nil => 1
  | .ptr d => uptoBulk d + 1
  | .slice elems spare => uptoBulkAll elems + uptoBulkAll spare + 1
  | .agg parts => uptoBulkAll parts + 1
  | .iface _ d => uptoBulk d + 1
  | .map entries => uptoBulkEntries entries + 1
  | .held _ => 1
def uptoBulkAll {H : Type} : List (DataW H) → Nat
  | [] => 0
  | d :: r => uptoBulk d + uptoBulkAll r
def uptoBulkEntries {H : Type} : List (Lit × DataW H) → Nat
  | [] => 0
  | x :: r => uptoBulkEntry x + uptoBulkEntries r
def uptoBulkEntry {H : Type} : Lit × DataW H → Nat
  | (.string bytes, d) => bytes.length + uptoBulk d + 1
  | (_, d) => uptoBulk d + 1
 end
def uptoSmall : (H : Type) → List (DataW H) → Bool := fun _ ds => decide (uptoBulkAll ds ≤ 1048576)
def OpenSpec.upto (s : _root_.Go.ChangeSpec) : _root_.Go.OpenSpec := { _root_.Go.OpenSpec.ofChange s with cond := some uptoSmall }

/-- 'laws.FnDeadlines', WHERE WHAT IT READS IS OF BULK AT MOST 1048576: true; the input reads as it did. -/
def fnDeadlinesUptoRow : OpenClaim := { program := "ytcjkndcmeedneaa", sum := "dd0b629d5599cb3bff0e909230d7cf7dd6abfe0deafa5a5cb661f213f5e58270", func := "loop.example/g00987/laws.FnDeadlines", spec := "fnDeadlines", apart := false, narrowed := true }
def FnDeadlinesUptoSaid : Prop := fnDeadlinesUptoRow.holds Try.pinned (OpenSpec.upto fnDeadlinesSpec)

/-- 'laws.FnExactGlyphOk', WHERE WHAT IT READS IS OF BULK AT MOST 1048576: true; the input reads as it did. -/
def fnExactGlyphOkUptoRow : OpenClaim := { program := "ytcjkndcmeedneaa", sum := "dd0b629d5599cb3bff0e909230d7cf7dd6abfe0deafa5a5cb661f213f5e58270", func := "loop.example/g00987/laws.FnExactGlyphOk", spec := "fnExactGlyphOk", apart := false, narrowed := true }
def FnExactGlyphOkUptoSaid : Prop := fnExactGlyphOkUptoRow.holds Try.pinned (OpenSpec.upto fnExactGlyphOkSpec)

/-- 'laws.FnExactGlyphDot', WHERE WHAT IT READS IS OF BULK AT MOST 1048576: true; the input reads as it did. -/
def fnExactGlyphDotUptoRow : OpenClaim := { program := "ytcjkndcmeedneaa", sum := "dd0b629d5599cb3bff0e909230d7cf7dd6abfe0deafa5a5cb661f213f5e58270", func := "loop.example/g00987/laws.FnExactGlyphDot", spec := "fnExactGlyphDot", apart := false, narrowed := true }
def FnExactGlyphDotUptoSaid : Prop := fnExactGlyphDotUptoRow.holds Try.pinned (OpenSpec.upto fnExactGlyphDotSpec)

/-- 'laws.FnExactPrepaintBands', WHERE WHAT IT READS IS OF BULK AT MOST 1048576: true; the input reads as it did. -/
def fnExactPrepaintBandsUptoRow : OpenClaim := { program := "ytcjkndcmeedneaa", sum := "dd0b629d5599cb3bff0e909230d7cf7dd6abfe0deafa5a5cb661f213f5e58270", func := "loop.example/g00987/laws.FnExactPrepaintBands", spec := "fnExactPrepaintBands", apart := false, narrowed := true }
def FnExactPrepaintBandsUptoSaid : Prop := fnExactPrepaintBandsUptoRow.holds Try.pinned (OpenSpec.upto fnExactPrepaintBandsSpec)

/-- 'laws.FnGlyphs', WHERE WHAT IT READS IS OF BULK AT MOST 1048576: true; the input reads as it did. -/
def fnGlyphsUptoRow : OpenClaim := { program := "ytcjkndcmeedneaa", sum := "dd0b629d5599cb3bff0e909230d7cf7dd6abfe0deafa5a5cb661f213f5e58270", func := "loop.example/g00987/laws.FnGlyphs", spec := "fnGlyphs", apart := false, narrowed := true }
def FnGlyphsUptoSaid : Prop := fnGlyphsUptoRow.holds Try.pinned (OpenSpec.upto fnGlyphsSpec)

/-- 'laws.FnExactReadyTimes', WHERE WHAT IT READS IS OF BULK AT MOST 1048576: true; the input reads as it did. -/
def fnExactReadyTimesUptoRow : OpenClaim := { program := "ytcjkndcmeedneaa", sum := "dd0b629d5599cb3bff0e909230d7cf7dd6abfe0deafa5a5cb661f213f5e58270", func := "loop.example/g00987/laws.FnExactReadyTimes", spec := "fnExactReadyTimes", apart := false, narrowed := true }
def FnExactReadyTimesUptoSaid : Prop := fnExactReadyTimesUptoRow.holds Try.pinned (OpenSpec.upto fnExactReadyTimesSpec)

/-- 'laws.FnBuffers', WHERE WHAT IT READS IS OF BULK AT MOST 1048576: true; the input reads as it did. -/
def fnBuffersUptoRow : OpenClaim := { program := "ytcjkndcmeedneaa", sum := "dd0b629d5599cb3bff0e909230d7cf7dd6abfe0deafa5a5cb661f213f5e58270", func := "loop.example/g00987/laws.FnBuffers", spec := "fnBuffers", apart := false, narrowed := true }
def FnBuffersUptoSaid : Prop := fnBuffersUptoRow.holds Try.pinned (OpenSpec.upto fnBuffersSpec)

/-- 'laws.FnExactGlyphDots', WHERE WHAT IT READS IS OF BULK AT MOST 1048576: true; the input reads as it did. -/
def fnExactGlyphDotsUptoRow : OpenClaim := { program := "ytcjkndcmeedneaa", sum := "dd0b629d5599cb3bff0e909230d7cf7dd6abfe0deafa5a5cb661f213f5e58270", func := "loop.example/g00987/laws.FnExactGlyphDots", spec := "fnExactGlyphDots", apart := false, narrowed := true }
def FnExactGlyphDotsUptoSaid : Prop := fnExactGlyphDotsUptoRow.holds Try.pinned (OpenSpec.upto fnExactGlyphDotsSpec)

/-- 'laws.FnExactLeastDelay', WHERE WHAT IT READS IS OF BULK AT MOST 1048576: true; the input reads as it did. -/
def fnExactLeastDelayUptoRow : OpenClaim := { program := "ytcjkndcmeedneaa", sum := "dd0b629d5599cb3bff0e909230d7cf7dd6abfe0deafa5a5cb661f213f5e58270", func := "loop.example/g00987/laws.FnExactLeastDelay", spec := "fnExactLeastDelay", apart := false, narrowed := true }
def FnExactLeastDelayUptoSaid : Prop := fnExactLeastDelayUptoRow.holds Try.pinned (OpenSpec.upto fnExactLeastDelaySpec)

/-- 'laws.FnExactLateBands', WHERE WHAT IT READS IS OF BULK AT MOST 1048576: true; the input reads as it did. -/
def fnExactLateBandsUptoRow : OpenClaim := { program := "ytcjkndcmeedneaa", sum := "dd0b629d5599cb3bff0e909230d7cf7dd6abfe0deafa5a5cb661f213f5e58270", func := "loop.example/g00987/laws.FnExactLateBands", spec := "fnExactLateBands", apart := false, narrowed := true }
def FnExactLateBandsUptoSaid : Prop := fnExactLateBandsUptoRow.holds Try.pinned (OpenSpec.upto fnExactLateBandsSpec)

/-- 'laws.FnExactCacheSize', WHERE WHAT IT READS IS OF BULK AT MOST 1048576: true; the input reads as it did. -/
def fnExactCacheSizeUptoRow : OpenClaim := { program := "ytcjkndcmeedneaa", sum := "dd0b629d5599cb3bff0e909230d7cf7dd6abfe0deafa5a5cb661f213f5e58270", func := "loop.example/g00987/laws.FnExactCacheSize", spec := "fnExactCacheSize", apart := false, narrowed := true }
def FnExactCacheSizeUptoSaid : Prop := fnExactCacheSizeUptoRow.holds Try.pinned (OpenSpec.upto fnExactCacheSizeSpec)

/-- 'laws.FnExactTurnGlyph', WHERE WHAT IT READS IS OF BULK AT MOST 1048576: true; the input reads as it did. -/
def fnExactTurnGlyphUptoRow : OpenClaim := { program := "ytcjkndcmeedneaa", sum := "dd0b629d5599cb3bff0e909230d7cf7dd6abfe0deafa5a5cb661f213f5e58270", func := "loop.example/g00987/laws.FnExactTurnGlyph", spec := "fnExactTurnGlyph", apart := false, narrowed := true }
def FnExactTurnGlyphUptoSaid : Prop := fnExactTurnGlyphUptoRow.holds Try.pinned (OpenSpec.upto fnExactTurnGlyphSpec)

end Rows
end Go.Proofs.Ytcjkndcmeedneaa
