/-
  No cell of these rows narrows 'for every input' (looked for: loops, veiled, ifaces, maps, wideKeys, modest, calm, conditions, laid).
  DERIVED. THE GIVEN ROWS OF THIS SEAT. 12 by the template 'for every input the law returns true; each argument reads behind the call as it read before'; 0 by the template 'total and deterministic' (their statements: YtoikbmdjancdcaaTotals.lean).
  GIVEN WITH THE SEED: the statements are not yours to turn. If you find one false, say at which input.
  Laid BY PROGRAM, IN A SANDBOX (cutbox-rows.mjs): the forced cells as the released guide's own fill.sh prints them over the translation c393e06fb5763869… (all of the seat's roots in one cut). By AI agents, Wed Nov 11 2026. No macro, syntax, notation, axiom, sorry.
-/
import Derived.Test.YtoikbmdjancdcaaChecked
import GoSem.Claim
import GoSem.ClaimJoined
import GoSem.ClaimMapViews
import Derived.JoinedTies
import Derived.KernelRfl
namespace Go.Proofs.Ytoikbmdjancdcaa
/- THE CELL 'sum', in the pinned program and in every row, IS THE sha256 OF THE DUMP (.gsa) THAT YtoikbmdjancdcaaProg.lean LOADS. Nothing in Lean hashes anything: it is a label: what it is worth is what the hold of that sum in a sandbox is worth. -/
noncomputable def Try.pinned : Pinned := { name := "ytoikbmdjancdcaa", sum := "c393e06fb5763869560c518785b38d7d15425643239d28481ca27d9f4d6d757a", checked := Try.checked }
namespace Rows
def none {H : Type} : Left H := { results := [], args := [] }

/-- 'laws.FnExactServedCost': WHATEVER THE INPUT: true; the input reads as it did. -/
def fnExactServedCostSpec : ChangeSpec := { name := "fnExactServedCost", fn := fun _ => fun
  | [d1, d2] => { results := [.lit (.bool true)], args := [d1, d2] }
  | _ => none }
def fnExactServedCostRow : OpenClaim := { program := "ytoikbmdjancdcaa", sum := "c393e06fb5763869560c518785b38d7d15425643239d28481ca27d9f4d6d757a", func := "loop.example/g00710/laws.FnExactServedCost", spec := "fnExactServedCost", apart := false }
def FnExactServedCostSaid : Prop := fnExactServedCostRow.holds Try.pinned (OpenSpec.ofChange fnExactServedCostSpec)

/-- ITS FALSE NEIGHBOUR: 'it returns false'. Refute it at one input. -/
def fnExactServedCostWrong : ChangeSpec := { name := "fnExactServedCost", fn := fun _ => fun
  | [d1, d2] => { results := [.lit (.bool false)], args := [d1, d2] }
  | _ => none }
def FnExactServedCostWrongFalsely : Prop := fnExactServedCostRow.holds Try.pinned (OpenSpec.ofChange fnExactServedCostWrong)

/-- 'laws.FnExactLineCost': WHATEVER THE INPUT: true; the input reads as it did. -/
def fnExactLineCostSpec : ChangeSpec := { name := "fnExactLineCost", fn := fun _ => fun
  | [d] => { results := [.lit (.bool true)], args := [d] }
  | _ => none }
def fnExactLineCostRow : OpenClaim := { program := "ytoikbmdjancdcaa", sum := "c393e06fb5763869560c518785b38d7d15425643239d28481ca27d9f4d6d757a", func := "loop.example/g00710/laws.FnExactLineCost", spec := "fnExactLineCost", apart := false }
def FnExactLineCostSaid : Prop := fnExactLineCostRow.holds Try.pinned (OpenSpec.ofChange fnExactLineCostSpec)

/-- ITS FALSE NEIGHBOUR: 'it returns false'. Refute it at one input. -/
def fnExactLineCostWrong : ChangeSpec := { name := "fnExactLineCost", fn := fun _ => fun
  | [d] => { results := [.lit (.bool false)], args := [d] }
  | _ => none }
def FnExactLineCostWrongFalsely : Prop := fnExactLineCostRow.holds Try.pinned (OpenSpec.ofChange fnExactLineCostWrong)

/-- 'laws.FnExactPlaceOf': WHATEVER THE INPUT: true; the input reads as it did. -/
def fnExactPlaceOfSpec : ChangeSpec := { name := "fnExactPlaceOf", fn := fun _ => fun
  | [d1, d2] => { results := [.lit (.bool true)], args := [d1, d2] }
  | _ => none }
def fnExactPlaceOfRow : OpenClaim := { program := "ytoikbmdjancdcaa", sum := "c393e06fb5763869560c518785b38d7d15425643239d28481ca27d9f4d6d757a", func := "loop.example/g00710/laws.FnExactPlaceOf", spec := "fnExactPlaceOf", unfollowed := true, recurses := true, apart := false }
def FnExactPlaceOfSaid : Prop := fnExactPlaceOfRow.holds Try.pinned (OpenSpec.ofChange fnExactPlaceOfSpec)

/-- ITS FALSE NEIGHBOUR: 'it returns false'. Refute it at one input. -/
def fnExactPlaceOfWrong : ChangeSpec := { name := "fnExactPlaceOf", fn := fun _ => fun
  | [d1, d2] => { results := [.lit (.bool false)], args := [d1, d2] }
  | _ => none }
def FnExactPlaceOfWrongFalsely : Prop := fnExactPlaceOfRow.holds Try.pinned (OpenSpec.ofChange fnExactPlaceOfWrong)

/-- 'laws.FnExactAhead': WHATEVER THE INPUT: true; the input reads as it did. -/
def fnExactAheadSpec : ChangeSpec := { name := "fnExactAhead", fn := fun _ => fun
  | [d1, d2] => { results := [.lit (.bool true)], args := [d1, d2] }
  | _ => none }
def fnExactAheadRow : OpenClaim := { program := "ytoikbmdjancdcaa", sum := "c393e06fb5763869560c518785b38d7d15425643239d28481ca27d9f4d6d757a", func := "loop.example/g00710/laws.FnExactAhead", spec := "fnExactAhead", unfollowed := true, recurses := true, apart := false }
def FnExactAheadSaid : Prop := fnExactAheadRow.holds Try.pinned (OpenSpec.ofChange fnExactAheadSpec)

/-- ITS FALSE NEIGHBOUR: 'it returns false'. Refute it at one input. -/
def fnExactAheadWrong : ChangeSpec := { name := "fnExactAhead", fn := fun _ => fun
  | [d1, d2] => { results := [.lit (.bool false)], args := [d1, d2] }
  | _ => none }
def FnExactAheadWrongFalsely : Prop := fnExactAheadRow.holds Try.pinned (OpenSpec.ofChange fnExactAheadWrong)

/-- 'laws.FnExactPush': WHATEVER THE INPUT: true; the input reads as it did. -/
def fnExactPushSpec : ChangeSpec := { name := "fnExactPush", fn := fun _ => fun
  | [d1, d2] => { results := [.lit (.bool true)], args := [d1, d2] }
  | _ => none }
def fnExactPushRow : OpenClaim := { program := "ytoikbmdjancdcaa", sum := "c393e06fb5763869560c518785b38d7d15425643239d28481ca27d9f4d6d757a", func := "loop.example/g00710/laws.FnExactPush", spec := "fnExactPush", apart := false }
def FnExactPushSaid : Prop := fnExactPushRow.holds Try.pinned (OpenSpec.ofChange fnExactPushSpec)

/-- ITS FALSE NEIGHBOUR: 'it returns false'. Refute it at one input. -/
def fnExactPushWrong : ChangeSpec := { name := "fnExactPush", fn := fun _ => fun
  | [d1, d2] => { results := [.lit (.bool false)], args := [d1, d2] }
  | _ => none }
def FnExactPushWrongFalsely : Prop := fnExactPushRow.holds Try.pinned (OpenSpec.ofChange fnExactPushWrong)

/-- 'laws.FnExactPop': WHATEVER THE INPUT: true; the input reads as it did. -/
def fnExactPopSpec : ChangeSpec := { name := "fnExactPop", fn := fun _ => fun
  | [d] => { results := [.lit (.bool true)], args := [d] }
  | _ => none }
def fnExactPopRow : OpenClaim := { program := "ytoikbmdjancdcaa", sum := "c393e06fb5763869560c518785b38d7d15425643239d28481ca27d9f4d6d757a", func := "loop.example/g00710/laws.FnExactPop", spec := "fnExactPop", apart := false }
def FnExactPopSaid : Prop := fnExactPopRow.holds Try.pinned (OpenSpec.ofChange fnExactPopSpec)

/-- ITS FALSE NEIGHBOUR: 'it returns false'. Refute it at one input. -/
def fnExactPopWrong : ChangeSpec := { name := "fnExactPop", fn := fun _ => fun
  | [d] => { results := [.lit (.bool false)], args := [d] }
  | _ => none }
def FnExactPopWrongFalsely : Prop := fnExactPopRow.holds Try.pinned (OpenSpec.ofChange fnExactPopWrong)

/-- 'laws.FnExactCancel': WHATEVER THE INPUT: true; the input reads as it did. -/
def fnExactCancelSpec : ChangeSpec := { name := "fnExactCancel", fn := fun _ => fun
  | [d1, d2] => { results := [.lit (.bool true)], args := [d1, d2] }
  | _ => none }
def fnExactCancelRow : OpenClaim := { program := "ytoikbmdjancdcaa", sum := "c393e06fb5763869560c518785b38d7d15425643239d28481ca27d9f4d6d757a", func := "loop.example/g00710/laws.FnExactCancel", spec := "fnExactCancel", unfollowed := true, recurses := true, apart := false }
def FnExactCancelSaid : Prop := fnExactCancelRow.holds Try.pinned (OpenSpec.ofChange fnExactCancelSpec)

/-- ITS FALSE NEIGHBOUR: 'it returns false'. Refute it at one input. -/
def fnExactCancelWrong : ChangeSpec := { name := "fnExactCancel", fn := fun _ => fun
  | [d1, d2] => { results := [.lit (.bool false)], args := [d1, d2] }
  | _ => none }
def FnExactCancelWrongFalsely : Prop := fnExactCancelRow.holds Try.pinned (OpenSpec.ofChange fnExactCancelWrong)

/-- 'laws.FnExactRingOk': WHATEVER THE INPUT: true; the input reads as it did. -/
def fnExactRingOkSpec : ChangeSpec := { name := "fnExactRingOk", fn := fun _ => fun
  | [d] => { results := [.lit (.bool true)], args := [d] }
  | _ => none }
def fnExactRingOkRow : OpenClaim := { program := "ytoikbmdjancdcaa", sum := "c393e06fb5763869560c518785b38d7d15425643239d28481ca27d9f4d6d757a", func := "loop.example/g00710/laws.FnExactRingOk", spec := "fnExactRingOk", apart := false }
def FnExactRingOkSaid : Prop := fnExactRingOkRow.holds Try.pinned (OpenSpec.ofChange fnExactRingOkSpec)

/-- ITS FALSE NEIGHBOUR: 'it returns false'. Refute it at one input. -/
def fnExactRingOkWrong : ChangeSpec := { name := "fnExactRingOk", fn := fun _ => fun
  | [d] => { results := [.lit (.bool false)], args := [d] }
  | _ => none }
def FnExactRingOkWrongFalsely : Prop := fnExactRingOkRow.holds Try.pinned (OpenSpec.ofChange fnExactRingOkWrong)

/-- 'laws.FnExactWaiting': WHATEVER THE INPUT: true; the input reads as it did. -/
def fnExactWaitingSpec : ChangeSpec := { name := "fnExactWaiting", fn := fun _ => fun
  | [d] => { results := [.lit (.bool true)], args := [d] }
  | _ => none }
def fnExactWaitingRow : OpenClaim := { program := "ytoikbmdjancdcaa", sum := "c393e06fb5763869560c518785b38d7d15425643239d28481ca27d9f4d6d757a", func := "loop.example/g00710/laws.FnExactWaiting", spec := "fnExactWaiting", apart := false }
def FnExactWaitingSaid : Prop := fnExactWaitingRow.holds Try.pinned (OpenSpec.ofChange fnExactWaitingSpec)

/-- ITS FALSE NEIGHBOUR: 'it returns false'. Refute it at one input. -/
def fnExactWaitingWrong : ChangeSpec := { name := "fnExactWaiting", fn := fun _ => fun
  | [d] => { results := [.lit (.bool false)], args := [d] }
  | _ => none }
def FnExactWaitingWrongFalsely : Prop := fnExactWaitingRow.holds Try.pinned (OpenSpec.ofChange fnExactWaitingWrong)

/-- 'laws.FnExactFairGap': WHATEVER THE INPUT: true; the input reads as it did. -/
def fnExactFairGapSpec : ChangeSpec := { name := "fnExactFairGap", fn := fun _ => fun
  | [d1, d2, d3] => { results := [.lit (.bool true)], args := [d1, d2, d3] }
  | _ => none }
def fnExactFairGapRow : OpenClaim := { program := "ytoikbmdjancdcaa", sum := "c393e06fb5763869560c518785b38d7d15425643239d28481ca27d9f4d6d757a", func := "loop.example/g00710/laws.FnExactFairGap", spec := "fnExactFairGap", unfollowed := true, recurses := true, apart := false }
def FnExactFairGapSaid : Prop := fnExactFairGapRow.holds Try.pinned (OpenSpec.ofChange fnExactFairGapSpec)

/-- ITS FALSE NEIGHBOUR: 'it returns false'. Refute it at one input. -/
def fnExactFairGapWrong : ChangeSpec := { name := "fnExactFairGap", fn := fun _ => fun
  | [d1, d2, d3] => { results := [.lit (.bool false)], args := [d1, d2, d3] }
  | _ => none }
def FnExactFairGapWrongFalsely : Prop := fnExactFairGapRow.holds Try.pinned (OpenSpec.ofChange fnExactFairGapWrong)

/-- 'laws.FnExactPlayLine': WHATEVER THE INPUT: true; the input reads as it did. -/
def fnExactPlayLineSpec : ChangeSpec := { name := "fnExactPlayLine", fn := fun _ => fun
  | [d1, d2] => { results := [.lit (.bool true)], args := [d1, d2] }
  | _ => none }
def fnExactPlayLineRow : OpenClaim := { program := "ytoikbmdjancdcaa", sum := "c393e06fb5763869560c518785b38d7d15425643239d28481ca27d9f4d6d757a", func := "loop.example/g00710/laws.FnExactPlayLine", spec := "fnExactPlayLine", unfollowed := true, recurses := true, apart := false }
def FnExactPlayLineSaid : Prop := fnExactPlayLineRow.holds Try.pinned (OpenSpec.ofChange fnExactPlayLineSpec)

/-- ITS FALSE NEIGHBOUR: 'it returns false'. Refute it at one input. -/
def fnExactPlayLineWrong : ChangeSpec := { name := "fnExactPlayLine", fn := fun _ => fun
  | [d1, d2] => { results := [.lit (.bool false)], args := [d1, d2] }
  | _ => none }
def FnExactPlayLineWrongFalsely : Prop := fnExactPlayLineRow.holds Try.pinned (OpenSpec.ofChange fnExactPlayLineWrong)

/-- 'laws.FnExactPushTicket': WHATEVER THE INPUT: true; the input reads as it did. -/
def fnExactPushTicketSpec : ChangeSpec := { name := "fnExactPushTicket", fn := fun _ => fun
  | [d1, d2, d3] => { results := [.lit (.bool true)], args := [d1, d2, d3] }
  | _ => none }
def fnExactPushTicketRow : OpenClaim := { program := "ytoikbmdjancdcaa", sum := "c393e06fb5763869560c518785b38d7d15425643239d28481ca27d9f4d6d757a", func := "loop.example/g00710/laws.FnExactPushTicket", spec := "fnExactPushTicket", unfollowed := true, recurses := true, apart := false }
def FnExactPushTicketSaid : Prop := fnExactPushTicketRow.holds Try.pinned (OpenSpec.ofChange fnExactPushTicketSpec)

/-- ITS FALSE NEIGHBOUR: 'it returns false'. Refute it at one input. -/
def fnExactPushTicketWrong : ChangeSpec := { name := "fnExactPushTicket", fn := fun _ => fun
  | [d1, d2, d3] => { results := [.lit (.bool false)], args := [d1, d2, d3] }
  | _ => none }
def FnExactPushTicketWrongFalsely : Prop := fnExactPushTicketRow.holds Try.pinned (OpenSpec.ofChange fnExactPushTicketWrong)

/- THE SECOND FORM. 'bulk': how many values and letters a reading holds, each counted each time it is reached (what is shared counts as often as it is met; a slice's spare places count too). A statement '..UptoSaid' is the law's where the arguments, and the package variables that the reading takes, are together of bulk at most 1048576: NARROWER than '..Said'. Prove '..Said' where nothing that the law and all that it calls make is longer than what came in: it says more and counts as full. Else prove '..UptoSaid'. A law counts once. -/
mutual
def uptoBulk {H : Type} : DataW H → Nat
  | .lit (.string bytes) => bytes.length + 1
  | .lit _ => 1
  | .nil => 1
  | .ptr d => uptoBulk d + 1
  | .slice elems spare => uptoBulkAll elems + uptoBulkAll spare + 1
  | .agg parts => uptoBulkAll parts + 1
  | .iface _ d => uptoBulk d + 1
  | .map entries => uptoBulkEntries entries + 1
  | .held _ => 1
def uptoBulkAll {H : Type} : List (DataW H) → Nat
  | [] => 0
  | d :: r => uptoBulk d + uptoBulkAll r
def uptoBulkEntries {H : Type} : List (Lit × DataW H) → Nat
  | [] => 0
  | x :: r => uptoBulkEntry x + uptoBulkEntries r
def uptoBulkEntry {H : Type} : Lit × DataW H → Nat
  | (.string bytes, d) => bytes.length + uptoBulk d + 1
  | (_, d) => uptoBulk d + 1
 end
def uptoSmall : (H : Type) → List (DataW H) → Bool := fun _ ds => decide (uptoBulkAll ds ≤ 1048576)
def OpenSpec.upto (s : _root_.Go.ChangeSpec) : _root_.Go.OpenSpec := { _root_.Go.OpenSpec.ofChange s with cond := some uptoSmall }

/-- 'laws.FnExactServedCost', WHERE WHAT IT READS IS OF BULK AT MOST 1048576: true; the input reads as it did. -/
def fnExactServedCostUptoRow : OpenClaim := { program := "ytoikbmdjancdcaa", sum := "c393e06fb5763869560c518785b38d7d15425643239d28481ca27d9f4d6d757a", func := "loop.example/g00710/laws.FnExactServedCost", spec := "fnExactServedCost", apart := false, narrowed := true }
def FnExactServedCostUptoSaid : Prop := fnExactServedCostUptoRow.holds Try.pinned (OpenSpec.upto fnExactServedCostSpec)

/-- 'laws.FnExactLineCost', WHERE WHAT IT READS IS OF BULK AT MOST 1048576: true; the input reads as it did. -/
def fnExactLineCostUptoRow : OpenClaim := { program := "ytoikbmdjancdcaa", sum := "c393e06fb5763869560c518785b38d7d15425643239d28481ca27d9f4d6d757a", func := "loop.example/g00710/laws.FnExactLineCost", spec := "fnExactLineCost", apart := false, narrowed := true }
def FnExactLineCostUptoSaid : Prop := fnExactLineCostUptoRow.holds Try.pinned (OpenSpec.upto fnExactLineCostSpec)

/-- 'laws.FnExactPlaceOf', WHERE WHAT IT READS IS OF BULK AT MOST 1048576: true; the input reads as it did. -/
def fnExactPlaceOfUptoRow : OpenClaim := { program := "ytoikbmdjancdcaa", sum := "c393e06fb5763869560c518785b38d7d15425643239d28481ca27d9f4d6d757a", func := "loop.example/g00710/laws.FnExactPlaceOf", spec := "fnExactPlaceOf", unfollowed := true, recurses := true, apart := false, narrowed := true }
def FnExactPlaceOfUptoSaid : Prop := fnExactPlaceOfUptoRow.holds Try.pinned (OpenSpec.upto fnExactPlaceOfSpec)

/-- 'laws.FnExactAhead', WHERE WHAT IT READS IS OF BULK AT MOST 1048576: true; the input reads as it did. -/
def fnExactAheadUptoRow : OpenClaim := { program := "ytoikbmdjancdcaa", sum := "c393e06fb5763869560c518785b38d7d15425643239d28481ca27d9f4d6d757a", func := "loop.example/g00710/laws.FnExactAhead", spec := "fnExactAhead", unfollowed := true, recurses := true, apart := false, narrowed := true }
def FnExactAheadUptoSaid : Prop := fnExactAheadUptoRow.holds Try.pinned (OpenSpec.upto fnExactAheadSpec)

/-- 'laws.FnExactPush', WHERE WHAT IT READS IS OF BULK AT MOST 1048576: true; the input reads as it did. -/
def fnExactPushUptoRow : OpenClaim := { program := "ytoikbmdjancdcaa", sum := "c393e06fb5763869560c518785b38d7d15425643239d28481ca27d9f4d6d757a", func := "loop.example/g00710/laws.FnExactPush", spec := "fnExactPush", apart := false, narrowed := true }
def FnExactPushUptoSaid : Prop := fnExactPushUptoRow.holds Try.pinned (OpenSpec.upto fnExactPushSpec)

/-- 'laws.FnExactPop', WHERE WHAT IT READS IS OF BULK AT MOST 1048576: true; the input reads as it did. -/
def fnExactPopUptoRow : OpenClaim := { program := "ytoikbmdjancdcaa", sum := "c393e06fb5763869560c518785b38d7d15425643239d28481ca27d9f4d6d757a", func := "loop.example/g00710/laws.FnExactPop", spec := "fnExactPop", apart := false, narrowed := true }
def FnExactPopUptoSaid : Prop := fnExactPopUptoRow.holds Try.pinned (OpenSpec.upto fnExactPopSpec)

/-- 'laws.FnExactCancel', WHERE WHAT IT READS IS OF BULK AT MOST 1048576: true; the input reads as it did. -/
def fnExactCancelUptoRow : OpenClaim := { program := "ytoikbmdjancdcaa", sum := "c393e06fb5763869560c518785b38d7d15425643239d28481ca27d9f4d6d757a", func := "loop.example/g00710/laws.FnExactCancel", spec := "fnExactCancel", unfollowed := true, recurses := true, apart := false, narrowed := true }
def FnExactCancelUptoSaid : Prop := fnExactCancelUptoRow.holds Try.pinned (OpenSpec.upto fnExactCancelSpec)

/-- 'laws.FnExactRingOk', WHERE WHAT IT READS IS OF BULK AT MOST 1048576: true; the input reads as it did. -/
def fnExactRingOkUptoRow : OpenClaim := { program := "ytoikbmdjancdcaa", sum := "c393e06fb5763869560c518785b38d7d15425643239d28481ca27d9f4d6d757a", func := "loop.example/g00710/laws.FnExactRingOk", spec := "fnExactRingOk", apart := false, narrowed := true }
def FnExactRingOkUptoSaid : Prop := fnExactRingOkUptoRow.holds Try.pinned (OpenSpec.upto fnExactRingOkSpec)

/-- 'laws.FnExactWaiting', WHERE WHAT IT READS IS OF BULK AT MOST 1048576: true; the input reads as it did. -/
def fnExactWaitingUptoRow : OpenClaim := { program := "ytoikbmdjancdcaa", sum := "c393e06fb5763869560c518785b38d7d15425643239d28481ca27d9f4d6d757a", func := "loop.example/g00710/laws.FnExactWaiting", spec := "fnExactWaiting", apart := false, narrowed := true }
def FnExactWaitingUptoSaid : Prop := fnExactWaitingUptoRow.holds Try.pinned (OpenSpec.upto fnExactWaitingSpec)

/-- 'laws.FnExactFairGap', WHERE WHAT IT READS IS OF BULK AT MOST 1048576: true; the input reads as it did. -/
def fnExactFairGapUptoRow : OpenClaim := { program := "ytoikbmdjancdcaa", sum := "c393e06fb5763869560c518785b38d7d15425643239d28481ca27d9f4d6d757a", func := "loop.example/g00710/laws.FnExactFairGap", spec := "fnExactFairGap", unfollowed := true, recurses := true, apart := false, narrowed := true }
def FnExactFairGapUptoSaid : Prop := fnExactFairGapUptoRow.holds Try.pinned (OpenSpec.upto fnExactFairGapSpec)

/-- 'laws.FnExactPlayLine', WHERE WHAT IT READS IS OF BULK AT MOST 1048576: true; the input reads as it did. -/
def fnExactPlayLineUptoRow : OpenClaim := { program := "ytoikbmdjancdcaa", sum := "c393e06fb5763869560c518785b38d7d15425643239d28481ca27d9f4d6d757a", func := "loop.example/g00710/laws.FnExactPlayLine", spec := "fnExactPlayLine", unfollowed := true, recurses := true, apart := false, narrowed := true }
def FnExactPlayLineUptoSaid : Prop := fnExactPlayLineUptoRow.holds Try.pinned (OpenSpec.upto fnExactPlayLineSpec)

/-- 'laws.FnExactPushTicket', WHERE WHAT IT READS IS OF BULK AT MOST 1048576: true; the input reads as it did. -/
def fnExactPushTicketUptoRow : OpenClaim := { program := "ytoikbmdjancdcaa", sum := "c393e06fb5763869560c518785b38d7d15425643239d28481ca27d9f4d6d757a", func := "loop.example/g00710/laws.FnExactPushTicket", spec := "fnExactPushTicket", unfollowed := true, recurses := true, apart := false, narrowed := true }
def FnExactPushTicketUptoSaid : Prop := fnExactPushTicketUptoRow.holds Try.pinned (OpenSpec.upto fnExactPushTicketSpec)

end Rows
end Go.Proofs.Ytoikbmdjancdcaa
