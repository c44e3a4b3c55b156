/-
  No cell of these rows narrows 'for every input' (looked for: loops, veiled, ifaces, maps, wideKeys, modest, calm, conditions, laid).
  DERIVED. THE GIVEN ROWS OF THIS SEAT. 7 by the template 'for every input the law returns true; each argument reads behind the call as it read before'; 0 by the template 'total and deterministic' (their statements: YtnjihkeflkemdaaTotals.lean).
  GIVEN WITH THE SEED: the statements are not yours to turn. If you find one false, say at which input.
  Laid BY PROGRAM, IN A SANDBOX (cutbox-rows.mjs): the forced cells as the released guide's own fill.sh prints them over the translation a65ed4627c9d6326… (all of the seat's roots in one cut). By AI agents, Wed Nov 11 2026. No macro, syntax, notation, axiom, sorry.
-/
import Derived.Test.YtnjihkeflkemdaaChecked
import GoSem.Claim
import GoSem.ClaimJoined
import GoSem.ClaimMapViews
import Derived.JoinedTies
import Derived.KernelRfl
namespace Go.Proofs.Ytnjihkeflkemdaa
/- THE CELL 'sum', in the pinned program and in every row, IS THE sha256 OF THE DUMP (.gsa) THAT YtnjihkeflkemdaaProg.lean LOADS. Nothing in Lean hashes anything: it is a label: what it is worth is what the hold of that sum in a sandbox is worth. -/
noncomputable def Try.pinned : Pinned := { name := "ytnjihkeflkemdaa", sum := "a65ed4627c9d6326d2c3d764d847dc64a7fe092244f68a2f9f9b282ced040bd2", checked := Try.checked }
namespace Rows
def none {H : Type} : Left H := { results := [], args := [] }

/-- 'laws.FnExactDropFlow': WHATEVER THE INPUT: true; the input reads as it did. -/
def fnExactDropFlowSpec : ChangeSpec := { name := "fnExactDropFlow", fn := fun _ => fun
  | [d1, d2] => { results := [.lit (.bool true)], args := [d1, d2] }
  | _ => none }
def fnExactDropFlowRow : OpenClaim := { program := "ytnjihkeflkemdaa", sum := "a65ed4627c9d6326d2c3d764d847dc64a7fe092244f68a2f9f9b282ced040bd2", func := "loop.example/g00710/laws.FnExactDropFlow", spec := "fnExactDropFlow", unfollowed := true, recurses := true, apart := false }
def FnExactDropFlowSaid : Prop := fnExactDropFlowRow.holds Try.pinned (OpenSpec.ofChange fnExactDropFlowSpec)

/-- ITS FALSE NEIGHBOUR: 'it returns false'. Refute it at one input. -/
def fnExactDropFlowWrong : ChangeSpec := { name := "fnExactDropFlow", fn := fun _ => fun
  | [d1, d2] => { results := [.lit (.bool false)], args := [d1, d2] }
  | _ => none }
def FnExactDropFlowWrongFalsely : Prop := fnExactDropFlowRow.holds Try.pinned (OpenSpec.ofChange fnExactDropFlowWrong)

/-- 'laws.FnExactCancelTicket': WHATEVER THE INPUT: true; the input reads as it did. -/
def fnExactCancelTicketSpec : ChangeSpec := { name := "fnExactCancelTicket", fn := fun _ => fun
  | [d1, d2, d3] => { results := [.lit (.bool true)], args := [d1, d2, d3] }
  | _ => none }
def fnExactCancelTicketRow : OpenClaim := { program := "ytnjihkeflkemdaa", sum := "a65ed4627c9d6326d2c3d764d847dc64a7fe092244f68a2f9f9b282ced040bd2", func := "loop.example/g00710/laws.FnExactCancelTicket", spec := "fnExactCancelTicket", unfollowed := true, recurses := true, apart := false }
def FnExactCancelTicketSaid : Prop := fnExactCancelTicketRow.holds Try.pinned (OpenSpec.ofChange fnExactCancelTicketSpec)

/-- ITS FALSE NEIGHBOUR: 'it returns false'. Refute it at one input. -/
def fnExactCancelTicketWrong : ChangeSpec := { name := "fnExactCancelTicket", fn := fun _ => fun
  | [d1, d2, d3] => { results := [.lit (.bool false)], args := [d1, d2, d3] }
  | _ => none }
def FnExactCancelTicketWrongFalsely : Prop := fnExactCancelTicketRow.holds Try.pinned (OpenSpec.ofChange fnExactCancelTicketWrong)

/-- 'laws.FnExactNextTicket': WHATEVER THE INPUT: true; the input reads as it did. -/
def fnExactNextTicketSpec : ChangeSpec := { name := "fnExactNextTicket", fn := fun _ => fun
  | [d] => { results := [.lit (.bool true)], args := [d] }
  | _ => none }
def fnExactNextTicketRow : OpenClaim := { program := "ytnjihkeflkemdaa", sum := "a65ed4627c9d6326d2c3d764d847dc64a7fe092244f68a2f9f9b282ced040bd2", func := "loop.example/g00710/laws.FnExactNextTicket", spec := "fnExactNextTicket", apart := false }
def FnExactNextTicketSaid : Prop := fnExactNextTicketRow.holds Try.pinned (OpenSpec.ofChange fnExactNextTicketSpec)

/-- ITS FALSE NEIGHBOUR: 'it returns false'. Refute it at one input. -/
def fnExactNextTicketWrong : ChangeSpec := { name := "fnExactNextTicket", fn := fun _ => fun
  | [d] => { results := [.lit (.bool false)], args := [d] }
  | _ => none }
def FnExactNextTicketWrongFalsely : Prop := fnExactNextTicketRow.holds Try.pinned (OpenSpec.ofChange fnExactNextTicketWrong)

/-- 'laws.FnExactAddFlow': WHATEVER THE INPUT: true; the input reads as it did. -/
def fnExactAddFlowSpec : ChangeSpec := { name := "fnExactAddFlow", fn := fun _ => fun
  | [d1, d2, d3] => { results := [.lit (.bool true)], args := [d1, d2, d3] }
  | _ => none }
def fnExactAddFlowRow : OpenClaim := { program := "ytnjihkeflkemdaa", sum := "a65ed4627c9d6326d2c3d764d847dc64a7fe092244f68a2f9f9b282ced040bd2", func := "loop.example/g00710/laws.FnExactAddFlow", spec := "fnExactAddFlow", inPlace := ["slices.overlaps[loop.example/g00710/impl.Flow]"], unfollowed := true, recurses := true, apart := false }
def FnExactAddFlowSaid : Prop := fnExactAddFlowRow.holds Try.pinned (OpenSpec.ofChange fnExactAddFlowSpec)

/-- ITS FALSE NEIGHBOUR: 'it returns false'. Refute it at one input. -/
def fnExactAddFlowWrong : ChangeSpec := { name := "fnExactAddFlow", fn := fun _ => fun
  | [d1, d2, d3] => { results := [.lit (.bool false)], args := [d1, d2, d3] }
  | _ => none }
def FnExactAddFlowWrongFalsely : Prop := fnExactAddFlowRow.holds Try.pinned (OpenSpec.ofChange fnExactAddFlowWrong)

/-- 'laws.FnExactDrainRing': WHATEVER THE INPUT: true; the input reads as it did. -/
def fnExactDrainRingSpec : ChangeSpec := { name := "fnExactDrainRing", fn := fun _ => fun
  | [d1, d2] => { results := [.lit (.bool true)], args := [d1, d2] }
  | _ => none }
def fnExactDrainRingRow : OpenClaim := { program := "ytnjihkeflkemdaa", sum := "a65ed4627c9d6326d2c3d764d847dc64a7fe092244f68a2f9f9b282ced040bd2", func := "loop.example/g00710/laws.FnExactDrainRing", spec := "fnExactDrainRing", apart := false }
def FnExactDrainRingSaid : Prop := fnExactDrainRingRow.holds Try.pinned (OpenSpec.ofChange fnExactDrainRingSpec)

/-- ITS FALSE NEIGHBOUR: 'it returns false'. Refute it at one input. -/
def fnExactDrainRingWrong : ChangeSpec := { name := "fnExactDrainRing", fn := fun _ => fun
  | [d1, d2] => { results := [.lit (.bool false)], args := [d1, d2] }
  | _ => none }
def FnExactDrainRingWrongFalsely : Prop := fnExactDrainRingRow.holds Try.pinned (OpenSpec.ofChange fnExactDrainRingWrong)

/-- 'laws.FnFair': WHATEVER THE INPUT: true; the input reads as it did. -/
def fnFairSpec : ChangeSpec := { name := "fnFair", fn := fun _ => fun
  | [d] => { results := [.lit (.bool true)], args := [d] }
  | _ => none }
def fnFairRow : OpenClaim := { program := "ytnjihkeflkemdaa", sum := "a65ed4627c9d6326d2c3d764d847dc64a7fe092244f68a2f9f9b282ced040bd2", func := "loop.example/g00710/laws.FnFair", spec := "fnFair", inPlace := ["slices.overlaps[loop.example/g00710/impl.Flow]"], unfollowed := true, recurses := true, apart := false }
def FnFairSaid : Prop := fnFairRow.holds Try.pinned (OpenSpec.ofChange fnFairSpec)

/-- ITS FALSE NEIGHBOUR: 'it returns false'. Refute it at one input. -/
def fnFairWrong : ChangeSpec := { name := "fnFair", fn := fun _ => fun
  | [d] => { results := [.lit (.bool false)], args := [d] }
  | _ => none }
def FnFairWrongFalsely : Prop := fnFairRow.holds Try.pinned (OpenSpec.ofChange fnFairWrong)

/-- 'laws.FnDrained': WHATEVER THE INPUT: true; the input reads as it did. -/
def fnDrainedSpec : ChangeSpec := { name := "fnDrained", fn := fun _ => fun
  | [d] => { results := [.lit (.bool true)], args := [d] }
  | _ => none }
def fnDrainedRow : OpenClaim := { program := "ytnjihkeflkemdaa", sum := "a65ed4627c9d6326d2c3d764d847dc64a7fe092244f68a2f9f9b282ced040bd2", func := "loop.example/g00710/laws.FnDrained", spec := "fnDrained", apart := false }
def FnDrainedSaid : Prop := fnDrainedRow.holds Try.pinned (OpenSpec.ofChange fnDrainedSpec)

/-- ITS FALSE NEIGHBOUR: 'it returns false'. Refute it at one input. -/
def fnDrainedWrong : ChangeSpec := { name := "fnDrained", fn := fun _ => fun
  | [d] => { results := [.lit (.bool false)], args := [d] }
  | _ => none }
def FnDrainedWrongFalsely : Prop := fnDrainedRow.holds Try.pinned (OpenSpec.ofChange fnDrainedWrong)

/- THE SECOND FORM. 'bulk': how many values and letters a reading holds, each counted each time it is reached (what is shared counts as often as it is met; a slice's spare places count too). A statement '..UptoSaid' is the law's where the arguments, and the package variables that the reading takes, are together of bulk at most 1048576: NARROWER than '..Said'. Prove '..Said' where nothing that the law and all that it calls make is longer than what came in: it says more and counts as full. Else prove '..UptoSaid'. A law counts once. -/
mutual
def uptoBulk {H : Type} : DataW H → Nat
  | .lit (.string bytes) => bytes.length + 1
  | .lit _ => 1
  | .nil => 1
  | .ptr d => uptoBulk d + 1
  | .slice elems spare => uptoBulkAll elems + uptoBulkAll spare + 1
  | .agg parts => uptoBulkAll parts + 1
  | .iface _ d => uptoBulk d + 1
  | .map entries => uptoBulkEntries entries + 1
  | .held _ => 1
def uptoBulkAll {H : Type} : List (DataW H) → Nat
  | [] => 0
  | d :: r => uptoBulk d + uptoBulkAll r
def uptoBulkEntries {H : Type} : List (Lit × DataW H) → Nat
  | [] => 0
  | x :: r => uptoBulkEntry x + uptoBulkEntries r
def uptoBulkEntry {H : Type} : Lit × DataW H → Nat
  | (.string bytes, d) => bytes.length + uptoBulk d + 1
  | (_, d) => uptoBulk d + 1
 end
def uptoSmall : (H : Type) → List (DataW H) → Bool := fun _ ds => decide (uptoBulkAll ds ≤ 1048576)
def OpenSpec.upto (s : _root_.Go.ChangeSpec) : _root_.Go.OpenSpec := { _root_.Go.OpenSpec.ofChange s with cond := some uptoSmall }

/-- 'laws.FnExactDropFlow', WHERE WHAT IT READS IS OF BULK AT MOST 1048576: true; the input reads as it did. -/
def fnExactDropFlowUptoRow : OpenClaim := { program := "ytnjihkeflkemdaa", sum := "a65ed4627c9d6326d2c3d764d847dc64a7fe092244f68a2f9f9b282ced040bd2", func := "loop.example/g00710/laws.FnExactDropFlow", spec := "fnExactDropFlow", unfollowed := true, recurses := true, apart := false, narrowed := true }
def FnExactDropFlowUptoSaid : Prop := fnExactDropFlowUptoRow.holds Try.pinned (OpenSpec.upto fnExactDropFlowSpec)

/-- 'laws.FnExactCancelTicket', WHERE WHAT IT READS IS OF BULK AT MOST 1048576: true; the input reads as it did. -/
def fnExactCancelTicketUptoRow : OpenClaim := { program := "ytnjihkeflkemdaa", sum := "a65ed4627c9d6326d2c3d764d847dc64a7fe092244f68a2f9f9b282ced040bd2", func := "loop.example/g00710/laws.FnExactCancelTicket", spec := "fnExactCancelTicket", unfollowed := true, recurses := true, apart := false, narrowed := true }
def FnExactCancelTicketUptoSaid : Prop := fnExactCancelTicketUptoRow.holds Try.pinned (OpenSpec.upto fnExactCancelTicketSpec)

/-- 'laws.FnExactNextTicket', WHERE WHAT IT READS IS OF BULK AT MOST 1048576: true; the input reads as it did. -/
def fnExactNextTicketUptoRow : OpenClaim := { program := "ytnjihkeflkemdaa", sum := "a65ed4627c9d6326d2c3d764d847dc64a7fe092244f68a2f9f9b282ced040bd2", func := "loop.example/g00710/laws.FnExactNextTicket", spec := "fnExactNextTicket", apart := false, narrowed := true }
def FnExactNextTicketUptoSaid : Prop := fnExactNextTicketUptoRow.holds Try.pinned (OpenSpec.upto fnExactNextTicketSpec)

/-- 'laws.FnExactAddFlow', WHERE WHAT IT READS IS OF BULK AT MOST 1048576: true; the input reads as it did. -/
def fnExactAddFlowUptoRow : OpenClaim := { program := "ytnjihkeflkemdaa", sum := "a65ed4627c9d6326d2c3d764d847dc64a7fe092244f68a2f9f9b282ced040bd2", func := "loop.example/g00710/laws.FnExactAddFlow", spec := "fnExactAddFlow", inPlace := ["slices.overlaps[loop.example/g00710/impl.Flow]"], unfollowed := true, recurses := true, apart := false, narrowed := true }
def FnExactAddFlowUptoSaid : Prop := fnExactAddFlowUptoRow.holds Try.pinned (OpenSpec.upto fnExactAddFlowSpec)

/-- 'laws.FnExactDrainRing', WHERE WHAT IT READS IS OF BULK AT MOST 1048576: true; the input reads as it did. -/
def fnExactDrainRingUptoRow : OpenClaim := { program := "ytnjihkeflkemdaa", sum := "a65ed4627c9d6326d2c3d764d847dc64a7fe092244f68a2f9f9b282ced040bd2", func := "loop.example/g00710/laws.FnExactDrainRing", spec := "fnExactDrainRing", apart := false, narrowed := true }
def FnExactDrainRingUptoSaid : Prop := fnExactDrainRingUptoRow.holds Try.pinned (OpenSpec.upto fnExactDrainRingSpec)

/-- 'laws.FnFair', WHERE WHAT IT READS IS OF BULK AT MOST 1048576: true; the input reads as it did. -/
def fnFairUptoRow : OpenClaim := { program := "ytnjihkeflkemdaa", sum := "a65ed4627c9d6326d2c3d764d847dc64a7fe092244f68a2f9f9b282ced040bd2", func := "loop.example/g00710/laws.FnFair", spec := "fnFair", inPlace := ["slices.overlaps[loop.example/g00710/impl.Flow]"], unfollowed := true, recurses := true, apart := false, narrowed := true }
def FnFairUptoSaid : Prop := fnFairUptoRow.holds Try.pinned (OpenSpec.upto fnFairSpec)

/-- 'laws.FnDrained', WHERE WHAT IT READS IS OF BULK AT MOST 1048576: true; the input reads as it did. -/
def fnDrainedUptoRow : OpenClaim := { program := "ytnjihkeflkemdaa", sum := "a65ed4627c9d6326d2c3d764d847dc64a7fe092244f68a2f9f9b282ced040bd2", func := "loop.example/g00710/laws.FnDrained", spec := "fnDrained", apart := false, narrowed := true }
def FnDrainedUptoSaid : Prop := fnDrainedUptoRow.holds Try.pinned (OpenSpec.upto fnDrainedSpec)

end Rows
end Go.Proofs.Ytnjihkeflkemdaa
