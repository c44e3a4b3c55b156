/-
  No cell of these rows narrows 'for every input' (looked for: loops, veiled, ifaces, maps, wideKeys, modest, calm, conditions, laid).
  DERIVED. THE GIVEN ROWS OF THIS SEAT. 10 by the template 'for every input the law returns true; each argument reads behind the call as it read before'; 0 by the template 'total and deterministic' (their statements: YtdfdoigiehmnoaaTotals.lean).
  GIVEN WITH THE SEED: the statements are not yours to turn. If you find one false, say at which input.
  Laid BY PROGRAM, IN A SANDBOX (cutbox-rows.mjs): the forced cells as the released guide's own fill.sh prints them over the translation 77d4e28a0434edf2… (all of the seat's roots in one cut). By AI agents, Wed Nov 11 2026. No macro, syntax, notation, axiom, sorry.
-/
import Derived.Test.YtdfdoigiehmnoaaChecked
import GoSem.Claim
import GoSem.ClaimJoined
import GoSem.ClaimMapViews
import Derived.JoinedTies
import Derived.KernelRfl
namespace Go.Proofs.Ytdfdoigiehmnoaa
/- THE CELL 'sum', in the pinned program and in every row, IS THE sha256 OF THE DUMP (.gsa) THAT YtdfdoigiehmnoaaProg.lean LOADS. Nothing in Lean hashes anything: it is a label: what it is worth is what the hold of that sum in a sandbox is worth. -/
noncomputable def Try.pinned : Pinned := { name := "ytdfdoigiehmnoaa", sum := "77d4e28a0434edf224c822d2d833ec5d63de4c38a5b767017143e784527600b0", checked := Try.checked }
namespace Rows
def none {H : Type} : Left H := { results := [], args := [] }

/-- 'laws.FnExactWeights': WHATEVER THE INPUT: true; the input reads as it did. -/
def fnExactWeightsSpec : ChangeSpec := { name := "fnExactWeights", fn := fun _ => fun
  | [d1, d2] => { results := [.lit (.bool true)], args := [d1, d2] }
  | _ => none }
def fnExactWeightsRow : OpenClaim := { program := "ytdfdoigiehmnoaa", sum := "77d4e28a0434edf224c822d2d833ec5d63de4c38a5b767017143e784527600b0", func := "loop.example/g00710/laws.FnExactWeights", spec := "fnExactWeights", apart := false }
def FnExactWeightsSaid : Prop := fnExactWeightsRow.holds Try.pinned (OpenSpec.ofChange fnExactWeightsSpec)

/-- ITS FALSE NEIGHBOUR: 'it returns false'. Refute it at one input. -/
def fnExactWeightsWrong : ChangeSpec := { name := "fnExactWeights", fn := fun _ => fun
  | [d1, d2] => { results := [.lit (.bool false)], args := [d1, d2] }
  | _ => none }
def FnExactWeightsWrongFalsely : Prop := fnExactWeightsRow.holds Try.pinned (OpenSpec.ofChange fnExactWeightsWrong)

/-- 'laws.FnExactInterpolate': WHATEVER THE INPUT: true; the input reads as it did. -/
def fnExactInterpolateSpec : ChangeSpec := { name := "fnExactInterpolate", fn := fun _ => fun
  | [d1, d2, d3] => { results := [.lit (.bool true)], args := [d1, d2, d3] }
  | _ => none }
def fnExactInterpolateRow : OpenClaim := { program := "ytdfdoigiehmnoaa", sum := "77d4e28a0434edf224c822d2d833ec5d63de4c38a5b767017143e784527600b0", func := "loop.example/g00710/laws.FnExactInterpolate", spec := "fnExactInterpolate", apart := false }
def FnExactInterpolateSaid : Prop := fnExactInterpolateRow.holds Try.pinned (OpenSpec.ofChange fnExactInterpolateSpec)

/-- ITS FALSE NEIGHBOUR: 'it returns false'. Refute it at one input. -/
def fnExactInterpolateWrong : ChangeSpec := { name := "fnExactInterpolate", fn := fun _ => fun
  | [d1, d2, d3] => { results := [.lit (.bool false)], args := [d1, d2, d3] }
  | _ => none }
def FnExactInterpolateWrongFalsely : Prop := fnExactInterpolateRow.holds Try.pinned (OpenSpec.ofChange fnExactInterpolateWrong)

/-- 'laws.FnExactExtend': WHATEVER THE INPUT: true; the input reads as it did. -/
def fnExactExtendSpec : ChangeSpec := { name := "fnExactExtend", fn := fun _ => fun
  | [d1, d2, d3, d4] => { results := [.lit (.bool true)], args := [d1, d2, d3, d4] }
  | _ => none }
def fnExactExtendRow : OpenClaim := { program := "ytdfdoigiehmnoaa", sum := "77d4e28a0434edf224c822d2d833ec5d63de4c38a5b767017143e784527600b0", func := "loop.example/g00710/laws.FnExactExtend", spec := "fnExactExtend", apart := false }
def FnExactExtendSaid : Prop := fnExactExtendRow.holds Try.pinned (OpenSpec.ofChange fnExactExtendSpec)

/-- ITS FALSE NEIGHBOUR: 'it returns false'. Refute it at one input. -/
def fnExactExtendWrong : ChangeSpec := { name := "fnExactExtend", fn := fun _ => fun
  | [d1, d2, d3, d4] => { results := [.lit (.bool false)], args := [d1, d2, d3, d4] }
  | _ => none }
def FnExactExtendWrongFalsely : Prop := fnExactExtendRow.holds Try.pinned (OpenSpec.ofChange fnExactExtendWrong)

/-- 'laws.FnExactDecodeWord': WHATEVER THE INPUT: true; the input reads as it did. -/
def fnExactDecodeWordSpec : ChangeSpec := { name := "fnExactDecodeWord", fn := fun _ => fun
  | [d1, d2, d3, d4] => { results := [.lit (.bool true)], args := [d1, d2, d3, d4] }
  | _ => none }
def fnExactDecodeWordRow : OpenClaim := { program := "ytdfdoigiehmnoaa", sum := "77d4e28a0434edf224c822d2d833ec5d63de4c38a5b767017143e784527600b0", func := "loop.example/g00710/laws.FnExactDecodeWord", spec := "fnExactDecodeWord", apart := false }
def FnExactDecodeWordSaid : Prop := fnExactDecodeWordRow.holds Try.pinned (OpenSpec.ofChange fnExactDecodeWordSpec)

/-- ITS FALSE NEIGHBOUR: 'it returns false'. Refute it at one input. -/
def fnExactDecodeWordWrong : ChangeSpec := { name := "fnExactDecodeWord", fn := fun _ => fun
  | [d1, d2, d3, d4] => { results := [.lit (.bool false)], args := [d1, d2, d3, d4] }
  | _ => none }
def FnExactDecodeWordWrongFalsely : Prop := fnExactDecodeWordRow.holds Try.pinned (OpenSpec.ofChange fnExactDecodeWordWrong)

/-- 'laws.FnExactBlame': WHATEVER THE INPUT: true; the input reads as it did. -/
def fnExactBlameSpec : ChangeSpec := { name := "fnExactBlame", fn := fun _ => fun
  | [d1, d2, d3, d4] => { results := [.lit (.bool true)], args := [d1, d2, d3, d4] }
  | _ => none }
def fnExactBlameRow : OpenClaim := { program := "ytdfdoigiehmnoaa", sum := "77d4e28a0434edf224c822d2d833ec5d63de4c38a5b767017143e784527600b0", func := "loop.example/g00710/laws.FnExactBlame", spec := "fnExactBlame", apart := false }
def FnExactBlameSaid : Prop := fnExactBlameRow.holds Try.pinned (OpenSpec.ofChange fnExactBlameSpec)

/-- ITS FALSE NEIGHBOUR: 'it returns false'. Refute it at one input. -/
def fnExactBlameWrong : ChangeSpec := { name := "fnExactBlame", fn := fun _ => fun
  | [d1, d2, d3, d4] => { results := [.lit (.bool false)], args := [d1, d2, d3, d4] }
  | _ => none }
def FnExactBlameWrongFalsely : Prop := fnExactBlameRow.holds Try.pinned (OpenSpec.ofChange fnExactBlameWrong)

/-- 'laws.FnExactDecodeGaps': WHATEVER THE INPUT: true; the input reads as it did. -/
def fnExactDecodeGapsSpec : ChangeSpec := { name := "fnExactDecodeGaps", fn := fun _ => fun
  | [d1, d2, d3, d4, d5] => { results := [.lit (.bool true)], args := [d1, d2, d3, d4, d5] }
  | _ => none }
def fnExactDecodeGapsRow : OpenClaim := { program := "ytdfdoigiehmnoaa", sum := "77d4e28a0434edf224c822d2d833ec5d63de4c38a5b767017143e784527600b0", func := "loop.example/g00710/laws.FnExactDecodeGaps", spec := "fnExactDecodeGaps", apart := false }
def FnExactDecodeGapsSaid : Prop := fnExactDecodeGapsRow.holds Try.pinned (OpenSpec.ofChange fnExactDecodeGapsSpec)

/-- ITS FALSE NEIGHBOUR: 'it returns false'. Refute it at one input. -/
def fnExactDecodeGapsWrong : ChangeSpec := { name := "fnExactDecodeGaps", fn := fun _ => fun
  | [d1, d2, d3, d4, d5] => { results := [.lit (.bool false)], args := [d1, d2, d3, d4, d5] }
  | _ => none }
def FnExactDecodeGapsWrongFalsely : Prop := fnExactDecodeGapsRow.holds Try.pinned (OpenSpec.ofChange fnExactDecodeGapsWrong)

/-- 'laws.FnDecodeBent': WHATEVER THE INPUT: true; the input reads as it did. -/
def fnDecodeBentSpec : ChangeSpec := { name := "fnDecodeBent", fn := fun _ => fun
  | [d] => { results := [.lit (.bool true)], args := [d] }
  | _ => none }
def fnDecodeBentRow : OpenClaim := { program := "ytdfdoigiehmnoaa", sum := "77d4e28a0434edf224c822d2d833ec5d63de4c38a5b767017143e784527600b0", func := "loop.example/g00710/laws.FnDecodeBent", spec := "fnDecodeBent", apart := false }
def FnDecodeBentSaid : Prop := fnDecodeBentRow.holds Try.pinned (OpenSpec.ofChange fnDecodeBentSpec)

/-- ITS FALSE NEIGHBOUR: 'it returns false'. Refute it at one input. -/
def fnDecodeBentWrong : ChangeSpec := { name := "fnDecodeBent", fn := fun _ => fun
  | [d] => { results := [.lit (.bool false)], args := [d] }
  | _ => none }
def FnDecodeBentWrongFalsely : Prop := fnDecodeBentRow.holds Try.pinned (OpenSpec.ofChange fnDecodeBentWrong)

/-- 'laws.FnGaps': WHATEVER THE INPUT: true; the input reads as it did. -/
def fnGapsSpec : ChangeSpec := { name := "fnGaps", fn := fun _ => fun
  | [d] => { results := [.lit (.bool true)], args := [d] }
  | _ => none }
def fnGapsRow : OpenClaim := { program := "ytdfdoigiehmnoaa", sum := "77d4e28a0434edf224c822d2d833ec5d63de4c38a5b767017143e784527600b0", func := "loop.example/g00710/laws.FnGaps", spec := "fnGaps", apart := false }
def FnGapsSaid : Prop := fnGapsRow.holds Try.pinned (OpenSpec.ofChange fnGapsSpec)

/-- ITS FALSE NEIGHBOUR: 'it returns false'. Refute it at one input. -/
def fnGapsWrong : ChangeSpec := { name := "fnGaps", fn := fun _ => fun
  | [d] => { results := [.lit (.bool false)], args := [d] }
  | _ => none }
def FnGapsWrongFalsely : Prop := fnGapsRow.holds Try.pinned (OpenSpec.ofChange fnGapsWrong)

/-- 'laws.FnWeights': WHATEVER THE INPUT: true; the input reads as it did. -/
def fnWeightsSpec : ChangeSpec := { name := "fnWeights", fn := fun _ => fun
  | [d] => { results := [.lit (.bool true)], args := [d] }
  | _ => none }
def fnWeightsRow : OpenClaim := { program := "ytdfdoigiehmnoaa", sum := "77d4e28a0434edf224c822d2d833ec5d63de4c38a5b767017143e784527600b0", func := "loop.example/g00710/laws.FnWeights", spec := "fnWeights", apart := false }
def FnWeightsSaid : Prop := fnWeightsRow.holds Try.pinned (OpenSpec.ofChange fnWeightsSpec)

/-- ITS FALSE NEIGHBOUR: 'it returns false'. Refute it at one input. -/
def fnWeightsWrong : ChangeSpec := { name := "fnWeights", fn := fun _ => fun
  | [d] => { results := [.lit (.bool false)], args := [d] }
  | _ => none }
def FnWeightsWrongFalsely : Prop := fnWeightsRow.holds Try.pinned (OpenSpec.ofChange fnWeightsWrong)

/-- 'laws.FnInterpolateBack': WHATEVER THE INPUT: true; the input reads as it did. -/
def fnInterpolateBackSpec : ChangeSpec := { name := "fnInterpolateBack", fn := fun _ => fun
  | [d] => { results := [.lit (.bool true)], args := [d] }
  | _ => none }
def fnInterpolateBackRow : OpenClaim := { program := "ytdfdoigiehmnoaa", sum := "77d4e28a0434edf224c822d2d833ec5d63de4c38a5b767017143e784527600b0", func := "loop.example/g00710/laws.FnInterpolateBack", spec := "fnInterpolateBack", apart := false }
def FnInterpolateBackSaid : Prop := fnInterpolateBackRow.holds Try.pinned (OpenSpec.ofChange fnInterpolateBackSpec)

/-- ITS FALSE NEIGHBOUR: 'it returns false'. Refute it at one input. -/
def fnInterpolateBackWrong : ChangeSpec := { name := "fnInterpolateBack", fn := fun _ => fun
  | [d] => { results := [.lit (.bool false)], args := [d] }
  | _ => none }
def FnInterpolateBackWrongFalsely : Prop := fnInterpolateBackRow.holds Try.pinned (OpenSpec.ofChange fnInterpolateBackWrong)

/- THE SECOND FORM. 'bulk': how many values and letters a reading holds, each counted each time it is reached (what is shared counts as often as it is met; a slice's spare places count too). A statement '..UptoSaid' is the law's where the arguments, and the package variables that the reading takes, are together of bulk at most 1048576: NARROWER than '..Said'. Prove '..Said' where nothing that the law and all that it calls make is longer than what came in: it says more and counts as full. Else prove '..UptoSaid'. A law counts once. -/
mutual
def uptoBulk {H : Type} : DataW H → Nat
  | .lit (.string bytes) => bytes.length + 1
  | .lit _ => 1
  | .nil => 1
  | .ptr d => uptoBulk d + 1
  | .slice elems spare => uptoBulkAll elems + uptoBulkAll spare + 1
  | .agg parts => uptoBulkAll parts + 1
  | .iface _ d => uptoBulk d + 1
  | .map entries => uptoBulkEntries entries + 1
  | .held _ => 1
def uptoBulkAll {H : Type} : List (DataW H) → Nat
  | [] => 0
  | d :: r => uptoBulk d + uptoBulkAll r
def uptoBulkEntries {H : Type} : List (Lit × DataW H) → Nat
  | [] => 0
  | x :: r => uptoBulkEntry x + uptoBulkEntries r
def uptoBulkEntry {H : Type} : Lit × DataW H → Nat
  | (.string bytes, d) => bytes.length + uptoBulk d + 1
  | (_, d) => uptoBulk d + 1
 end
def uptoSmall : (H : Type) → List (DataW H) → Bool := fun _ ds => decide (uptoBulkAll ds ≤ 1048576)
def OpenSpec.upto (s : _root_.Go.ChangeSpec) : _root_.Go.OpenSpec := { _root_.Go.OpenSpec.ofChange s with cond := some uptoSmall }

/-- 'laws.FnExactWeights', WHERE WHAT IT READS IS OF BULK AT MOST 1048576: true; the input reads as it did. -/
def fnExactWeightsUptoRow : OpenClaim := { program := "ytdfdoigiehmnoaa", sum := "77d4e28a0434edf224c822d2d833ec5d63de4c38a5b767017143e784527600b0", func := "loop.example/g00710/laws.FnExactWeights", spec := "fnExactWeights", apart := false, narrowed := true }
def FnExactWeightsUptoSaid : Prop := fnExactWeightsUptoRow.holds Try.pinned (OpenSpec.upto fnExactWeightsSpec)

/-- 'laws.FnExactInterpolate', WHERE WHAT IT READS IS OF BULK AT MOST 1048576: true; the input reads as it did. -/
def fnExactInterpolateUptoRow : OpenClaim := { program := "ytdfdoigiehmnoaa", sum := "77d4e28a0434edf224c822d2d833ec5d63de4c38a5b767017143e784527600b0", func := "loop.example/g00710/laws.FnExactInterpolate", spec := "fnExactInterpolate", apart := false, narrowed := true }
def FnExactInterpolateUptoSaid : Prop := fnExactInterpolateUptoRow.holds Try.pinned (OpenSpec.upto fnExactInterpolateSpec)

/-- 'laws.FnExactExtend', WHERE WHAT IT READS IS OF BULK AT MOST 1048576: true; the input reads as it did. -/
def fnExactExtendUptoRow : OpenClaim := { program := "ytdfdoigiehmnoaa", sum := "77d4e28a0434edf224c822d2d833ec5d63de4c38a5b767017143e784527600b0", func := "loop.example/g00710/laws.FnExactExtend", spec := "fnExactExtend", apart := false, narrowed := true }
def FnExactExtendUptoSaid : Prop := fnExactExtendUptoRow.holds Try.pinned (OpenSpec.upto fnExactExtendSpec)

/-- 'laws.FnExactDecodeWord', WHERE WHAT IT READS IS OF BULK AT MOST 1048576: true; the input reads as it did. -/
def fnExactDecodeWordUptoRow : OpenClaim := { program := "ytdfdoigiehmnoaa", sum := "77d4e28a0434edf224c822d2d833ec5d63de4c38a5b767017143e784527600b0", func := "loop.example/g00710/laws.FnExactDecodeWord", spec := "fnExactDecodeWord", apart := false, narrowed := true }
def FnExactDecodeWordUptoSaid : Prop := fnExactDecodeWordUptoRow.holds Try.pinned (OpenSpec.upto fnExactDecodeWordSpec)

/-- 'laws.FnExactBlame', WHERE WHAT IT READS IS OF BULK AT MOST 1048576: true; the input reads as it did. -/
def fnExactBlameUptoRow : OpenClaim := { program := "ytdfdoigiehmnoaa", sum := "77d4e28a0434edf224c822d2d833ec5d63de4c38a5b767017143e784527600b0", func := "loop.example/g00710/laws.FnExactBlame", spec := "fnExactBlame", apart := false, narrowed := true }
def FnExactBlameUptoSaid : Prop := fnExactBlameUptoRow.holds Try.pinned (OpenSpec.upto fnExactBlameSpec)

/-- 'laws.FnExactDecodeGaps', WHERE WHAT IT READS IS OF BULK AT MOST 1048576: true; the input reads as it did. -/
def fnExactDecodeGapsUptoRow : OpenClaim := { program := "ytdfdoigiehmnoaa", sum := "77d4e28a0434edf224c822d2d833ec5d63de4c38a5b767017143e784527600b0", func := "loop.example/g00710/laws.FnExactDecodeGaps", spec := "fnExactDecodeGaps", apart := false, narrowed := true }
def FnExactDecodeGapsUptoSaid : Prop := fnExactDecodeGapsUptoRow.holds Try.pinned (OpenSpec.upto fnExactDecodeGapsSpec)

/-- 'laws.FnDecodeBent', WHERE WHAT IT READS IS OF BULK AT MOST 1048576: true; the input reads as it did. -/
def fnDecodeBentUptoRow : OpenClaim := { program := "ytdfdoigiehmnoaa", sum := "77d4e28a0434edf224c822d2d833ec5d63de4c38a5b767017143e784527600b0", func := "loop.example/g00710/laws.FnDecodeBent", spec := "fnDecodeBent", apart := false, narrowed := true }
def FnDecodeBentUptoSaid : Prop := fnDecodeBentUptoRow.holds Try.pinned (OpenSpec.upto fnDecodeBentSpec)

/-- 'laws.FnGaps', WHERE WHAT IT READS IS OF BULK AT MOST 1048576: true; the input reads as it did. -/
def fnGapsUptoRow : OpenClaim := { program := "ytdfdoigiehmnoaa", sum := "77d4e28a0434edf224c822d2d833ec5d63de4c38a5b767017143e784527600b0", func := "loop.example/g00710/laws.FnGaps", spec := "fnGaps", apart := false, narrowed := true }
def FnGapsUptoSaid : Prop := fnGapsUptoRow.holds Try.pinned (OpenSpec.upto fnGapsSpec)

/-- 'laws.FnWeights', WHERE WHAT IT READS IS OF BULK AT MOST 1048576: true; the input reads as it did. -/
def fnWeightsUptoRow : OpenClaim := { program := "ytdfdoigiehmnoaa", sum := "77d4e28a0434edf224c822d2d833ec5d63de4c38a5b767017143e784527600b0", func := "loop.example/g00710/laws.FnWeights", spec := "fnWeights", apart := false, narrowed := true }
def FnWeightsUptoSaid : Prop := fnWeightsUptoRow.holds Try.pinned (OpenSpec.upto fnWeightsSpec)

/-- 'laws.FnInterpolateBack', WHERE WHAT IT READS IS OF BULK AT MOST 1048576: true; the input reads as it did. -/
def fnInterpolateBackUptoRow : OpenClaim := { program := "ytdfdoigiehmnoaa", sum := "77d4e28a0434edf224c822d2d833ec5d63de4c38a5b767017143e784527600b0", func := "loop.example/g00710/laws.FnInterpolateBack", spec := "fnInterpolateBack", apart := false, narrowed := true }
def FnInterpolateBackUptoSaid : Prop := fnInterpolateBackUptoRow.holds Try.pinned (OpenSpec.upto fnInterpolateBackSpec)

end Rows
end Go.Proofs.Ytdfdoigiehmnoaa
