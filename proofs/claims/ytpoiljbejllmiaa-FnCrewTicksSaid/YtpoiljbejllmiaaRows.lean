/-
  No cell of these rows narrows 'for every input' (looked for: loops, veiled, ifaces, maps, wideKeys, modest, calm, conditions, laid).
  DERIVED. THE GIVEN ROWS OF THIS SEAT. 9 by the template 'for every input the law returns true; each argument reads behind the call as it read before'; 0 by the template 'total and deterministic' (their statements: YtpoiljbejllmiaaTotals.lean).
  GIVEN WITH THE SEED: the statements are not yours to turn. If you find one false, say at which input.
  Laid BY PROGRAM, IN A SANDBOX (cutbox-rows.mjs): the forced cells as the released guide's own fill.sh prints them over the translation e66ef1d546049473… (all of the seat's roots in one cut). By AI agents, Wed Nov 11 2026. No macro, syntax, notation, axiom, sorry.
-/
import Derived.Test.YtpoiljbejllmiaaChecked
import GoSem.Claim
import GoSem.ClaimJoined
import GoSem.ClaimMapViews
import Derived.JoinedTies
import Derived.KernelRfl
namespace Go.Proofs.Ytpoiljbejllmiaa
/- THE CELL 'sum', in the pinned program and in every row, IS THE sha256 OF THE DUMP (.gsa) THAT YtpoiljbejllmiaaProg.lean LOADS. Nothing in Lean hashes anything: it is a label: what it is worth is what the hold of that sum in a sandbox is worth. -/
noncomputable def Try.pinned : Pinned := { name := "ytpoiljbejllmiaa", sum := "e66ef1d546049473d839502258a86c9f9f67f2586301be2005741587a00bf120", checked := Try.checked }
namespace Rows
def none {H : Type} : Left H := { results := [], args := [] }

/-- 'laws.FnCrewTicks': WHATEVER THE INPUT: true; the input reads as it did. -/
def fnCrewTicksSpec : ChangeSpec := { name := "fnCrewTicks", fn := fun _ => fun
  | [d] => { results := [.lit (.bool true)], args := [d] }
  | _ => none }
def fnCrewTicksRow : OpenClaim := { program := "ytpoiljbejllmiaa", sum := "e66ef1d546049473d839502258a86c9f9f67f2586301be2005741587a00bf120", func := "loop.example/g00710/laws.FnCrewTicks", spec := "fnCrewTicks", unfollowed := true, recurses := true, apart := false }
def FnCrewTicksSaid : Prop := fnCrewTicksRow.holds Try.pinned (OpenSpec.ofChange fnCrewTicksSpec)

/-- ITS FALSE NEIGHBOUR: 'it returns false'. Refute it at one input. -/
def fnCrewTicksWrong : ChangeSpec := { name := "fnCrewTicks", fn := fun _ => fun
  | [d] => { results := [.lit (.bool false)], args := [d] }
  | _ => none }
def FnCrewTicksWrongFalsely : Prop := fnCrewTicksRow.holds Try.pinned (OpenSpec.ofChange fnCrewTicksWrong)

/-- 'laws.FnExactCrewOk': WHATEVER THE INPUT: true; the input reads as it did. -/
def fnExactCrewOkSpec : ChangeSpec := { name := "fnExactCrewOk", fn := fun _ => fun
  | [d] => { results := [.lit (.bool true)], args := [d] }
  | _ => none }
def fnExactCrewOkRow : OpenClaim := { program := "ytpoiljbejllmiaa", sum := "e66ef1d546049473d839502258a86c9f9f67f2586301be2005741587a00bf120", func := "loop.example/g00710/laws.FnExactCrewOk", spec := "fnExactCrewOk", unfollowed := true, recurses := true, apart := false }
def FnExactCrewOkSaid : Prop := fnExactCrewOkRow.holds Try.pinned (OpenSpec.ofChange fnExactCrewOkSpec)

/-- ITS FALSE NEIGHBOUR: 'it returns false'. Refute it at one input. -/
def fnExactCrewOkWrong : ChangeSpec := { name := "fnExactCrewOk", fn := fun _ => fun
  | [d] => { results := [.lit (.bool false)], args := [d] }
  | _ => none }
def FnExactCrewOkWrongFalsely : Prop := fnExactCrewOkRow.holds Try.pinned (OpenSpec.ofChange fnExactCrewOkWrong)

/-- 'laws.FnExactBusyUnits': WHATEVER THE INPUT: true; the input reads as it did. -/
def fnExactBusyUnitsSpec : ChangeSpec := { name := "fnExactBusyUnits", fn := fun _ => fun
  | [d] => { results := [.lit (.bool true)], args := [d] }
  | _ => none }
def fnExactBusyUnitsRow : OpenClaim := { program := "ytpoiljbejllmiaa", sum := "e66ef1d546049473d839502258a86c9f9f67f2586301be2005741587a00bf120", func := "loop.example/g00710/laws.FnExactBusyUnits", spec := "fnExactBusyUnits", unfollowed := true, recurses := true, apart := false }
def FnExactBusyUnitsSaid : Prop := fnExactBusyUnitsRow.holds Try.pinned (OpenSpec.ofChange fnExactBusyUnitsSpec)

/-- ITS FALSE NEIGHBOUR: 'it returns false'. Refute it at one input. -/
def fnExactBusyUnitsWrong : ChangeSpec := { name := "fnExactBusyUnits", fn := fun _ => fun
  | [d] => { results := [.lit (.bool false)], args := [d] }
  | _ => none }
def FnExactBusyUnitsWrongFalsely : Prop := fnExactBusyUnitsRow.holds Try.pinned (OpenSpec.ofChange fnExactBusyUnitsWrong)

/-- 'laws.FnExactTicksLeft': WHATEVER THE INPUT: true; the input reads as it did. -/
def fnExactTicksLeftSpec : ChangeSpec := { name := "fnExactTicksLeft", fn := fun _ => fun
  | [d] => { results := [.lit (.bool true)], args := [d] }
  | _ => none }
def fnExactTicksLeftRow : OpenClaim := { program := "ytpoiljbejllmiaa", sum := "e66ef1d546049473d839502258a86c9f9f67f2586301be2005741587a00bf120", func := "loop.example/g00710/laws.FnExactTicksLeft", spec := "fnExactTicksLeft", unfollowed := true, recurses := true, apart := false }
def FnExactTicksLeftSaid : Prop := fnExactTicksLeftRow.holds Try.pinned (OpenSpec.ofChange fnExactTicksLeftSpec)

/-- ITS FALSE NEIGHBOUR: 'it returns false'. Refute it at one input. -/
def fnExactTicksLeftWrong : ChangeSpec := { name := "fnExactTicksLeft", fn := fun _ => fun
  | [d] => { results := [.lit (.bool false)], args := [d] }
  | _ => none }
def FnExactTicksLeftWrongFalsely : Prop := fnExactTicksLeftRow.holds Try.pinned (OpenSpec.ofChange fnExactTicksLeftWrong)

/-- 'laws.FnExactNewCrew': WHATEVER THE INPUT: true; the input reads as it did. -/
def fnExactNewCrewSpec : ChangeSpec := { name := "fnExactNewCrew", fn := fun _ => fun
  | [d1, d2] => { results := [.lit (.bool true)], args := [d1, d2] }
  | _ => none }
def fnExactNewCrewRow : OpenClaim := { program := "ytpoiljbejllmiaa", sum := "e66ef1d546049473d839502258a86c9f9f67f2586301be2005741587a00bf120", func := "loop.example/g00710/laws.FnExactNewCrew", spec := "fnExactNewCrew", unfollowed := true, recurses := true, apart := false }
def FnExactNewCrewSaid : Prop := fnExactNewCrewRow.holds Try.pinned (OpenSpec.ofChange fnExactNewCrewSpec)

/-- ITS FALSE NEIGHBOUR: 'it returns false'. Refute it at one input. -/
def fnExactNewCrewWrong : ChangeSpec := { name := "fnExactNewCrew", fn := fun _ => fun
  | [d1, d2] => { results := [.lit (.bool false)], args := [d1, d2] }
  | _ => none }
def FnExactNewCrewWrongFalsely : Prop := fnExactNewCrewRow.holds Try.pinned (OpenSpec.ofChange fnExactNewCrewWrong)

/-- 'laws.FnExactIdleHand': WHATEVER THE INPUT: true; the input reads as it did. -/
def fnExactIdleHandSpec : ChangeSpec := { name := "fnExactIdleHand", fn := fun _ => fun
  | [d] => { results := [.lit (.bool true)], args := [d] }
  | _ => none }
def fnExactIdleHandRow : OpenClaim := { program := "ytpoiljbejllmiaa", sum := "e66ef1d546049473d839502258a86c9f9f67f2586301be2005741587a00bf120", func := "loop.example/g00710/laws.FnExactIdleHand", spec := "fnExactIdleHand", unfollowed := true, recurses := true, apart := false }
def FnExactIdleHandSaid : Prop := fnExactIdleHandRow.holds Try.pinned (OpenSpec.ofChange fnExactIdleHandSpec)

/-- ITS FALSE NEIGHBOUR: 'it returns false'. Refute it at one input. -/
def fnExactIdleHandWrong : ChangeSpec := { name := "fnExactIdleHand", fn := fun _ => fun
  | [d] => { results := [.lit (.bool false)], args := [d] }
  | _ => none }
def FnExactIdleHandWrongFalsely : Prop := fnExactIdleHandRow.holds Try.pinned (OpenSpec.ofChange fnExactIdleHandWrong)

/-- 'laws.FnExactDropWork': WHATEVER THE INPUT: true; the input reads as it did. -/
def fnExactDropWorkSpec : ChangeSpec := { name := "fnExactDropWork", fn := fun _ => fun
  | [d1, d2, d3] => { results := [.lit (.bool true)], args := [d1, d2, d3] }
  | _ => none }
def fnExactDropWorkRow : OpenClaim := { program := "ytpoiljbejllmiaa", sum := "e66ef1d546049473d839502258a86c9f9f67f2586301be2005741587a00bf120", func := "loop.example/g00710/laws.FnExactDropWork", spec := "fnExactDropWork", unfollowed := true, recurses := true, apart := false }
def FnExactDropWorkSaid : Prop := fnExactDropWorkRow.holds Try.pinned (OpenSpec.ofChange fnExactDropWorkSpec)

/-- ITS FALSE NEIGHBOUR: 'it returns false'. Refute it at one input. -/
def fnExactDropWorkWrong : ChangeSpec := { name := "fnExactDropWork", fn := fun _ => fun
  | [d1, d2, d3] => { results := [.lit (.bool false)], args := [d1, d2, d3] }
  | _ => none }
def FnExactDropWorkWrongFalsely : Prop := fnExactDropWorkRow.holds Try.pinned (OpenSpec.ofChange fnExactDropWorkWrong)

/-- 'laws.FnExactAssign': WHATEVER THE INPUT: true; the input reads as it did. -/
def fnExactAssignSpec : ChangeSpec := { name := "fnExactAssign", fn := fun _ => fun
  | [d1, d2, d3] => { results := [.lit (.bool true)], args := [d1, d2, d3] }
  | _ => none }
def fnExactAssignRow : OpenClaim := { program := "ytpoiljbejllmiaa", sum := "e66ef1d546049473d839502258a86c9f9f67f2586301be2005741587a00bf120", func := "loop.example/g00710/laws.FnExactAssign", spec := "fnExactAssign", unfollowed := true, recurses := true, apart := false }
def FnExactAssignSaid : Prop := fnExactAssignRow.holds Try.pinned (OpenSpec.ofChange fnExactAssignSpec)

/-- ITS FALSE NEIGHBOUR: 'it returns false'. Refute it at one input. -/
def fnExactAssignWrong : ChangeSpec := { name := "fnExactAssign", fn := fun _ => fun
  | [d1, d2, d3] => { results := [.lit (.bool false)], args := [d1, d2, d3] }
  | _ => none }
def FnExactAssignWrongFalsely : Prop := fnExactAssignRow.holds Try.pinned (OpenSpec.ofChange fnExactAssignWrong)

/-- 'laws.FnExactTickCrew': WHATEVER THE INPUT: true; the input reads as it did. -/
def fnExactTickCrewSpec : ChangeSpec := { name := "fnExactTickCrew", fn := fun _ => fun
  | [d] => { results := [.lit (.bool true)], args := [d] }
  | _ => none }
def fnExactTickCrewRow : OpenClaim := { program := "ytpoiljbejllmiaa", sum := "e66ef1d546049473d839502258a86c9f9f67f2586301be2005741587a00bf120", func := "loop.example/g00710/laws.FnExactTickCrew", spec := "fnExactTickCrew", unfollowed := true, recurses := true, apart := false }
def FnExactTickCrewSaid : Prop := fnExactTickCrewRow.holds Try.pinned (OpenSpec.ofChange fnExactTickCrewSpec)

/-- ITS FALSE NEIGHBOUR: 'it returns false'. Refute it at one input. -/
def fnExactTickCrewWrong : ChangeSpec := { name := "fnExactTickCrew", fn := fun _ => fun
  | [d] => { results := [.lit (.bool false)], args := [d] }
  | _ => none }
def FnExactTickCrewWrongFalsely : Prop := fnExactTickCrewRow.holds Try.pinned (OpenSpec.ofChange fnExactTickCrewWrong)

/- THE SECOND FORM. 'bulk': how many values and letters a reading holds, each counted each time it is reached (what is shared counts as often as it is met; a slice's spare places count too). A statement '..UptoSaid' is the law's where the arguments, and the package variables that the reading takes, are together of bulk at most 1048576: NARROWER than '..Said'. Prove '..Said' where nothing that the law and all that it calls make is longer than what came in: it says more and counts as full. Else prove '..UptoSaid'. A law counts once. -/
mutual
def uptoBulk {H : Type} : DataW H → Nat
  | .lit (.string bytes) => bytes.length + 1
  | .lit _ => 1
  | .nil => 1
  | .ptr d => uptoBulk d + 1
  | .slice elems spare => uptoBulkAll elems + uptoBulkAll spare + 1
  | .agg parts => uptoBulkAll parts + 1
  | .iface _ d => uptoBulk d + 1
  | .map entries => uptoBulkEntries entries + 1
  | .held _ => 1
def uptoBulkAll {H : Type} : List (DataW H) → Nat
  | [] => 0
  | d :: r => uptoBulk d + uptoBulkAll r
def uptoBulkEntries {H : Type} : List (Lit × DataW H) → Nat
  | [] => 0
  | x :: r => uptoBulkEntry x + uptoBulkEntries r
def uptoBulkEntry {H : Type} : Lit × DataW H → Nat
  | (.string bytes, d) => bytes.length + uptoBulk d + 1
  | (_, d) => uptoBulk d + 1
 end
def uptoSmall : (H : Type) → List (DataW H) → Bool := fun _ ds => decide (uptoBulkAll ds ≤ 1048576)
def OpenSpec.upto (s : _root_.Go.ChangeSpec) : _root_.Go.OpenSpec := { _root_.Go.OpenSpec.ofChange s with cond := some uptoSmall }

/-- 'laws.FnCrewTicks', WHERE WHAT IT READS IS OF BULK AT MOST 1048576: true; the input reads as it did. -/
def fnCrewTicksUptoRow : OpenClaim := { program := "ytpoiljbejllmiaa", sum := "e66ef1d546049473d839502258a86c9f9f67f2586301be2005741587a00bf120", func := "loop.example/g00710/laws.FnCrewTicks", spec := "fnCrewTicks", unfollowed := true, recurses := true, apart := false, narrowed := true }
def FnCrewTicksUptoSaid : Prop := fnCrewTicksUptoRow.holds Try.pinned (OpenSpec.upto fnCrewTicksSpec)

/-- 'laws.FnExactCrewOk', WHERE WHAT IT READS IS OF BULK AT MOST 1048576: true; the input reads as it did. -/
def fnExactCrewOkUptoRow : OpenClaim := { program := "ytpoiljbejllmiaa", sum := "e66ef1d546049473d839502258a86c9f9f67f2586301be2005741587a00bf120", func := "loop.example/g00710/laws.FnExactCrewOk", spec := "fnExactCrewOk", unfollowed := true, recurses := true, apart := false, narrowed := true }
def FnExactCrewOkUptoSaid : Prop := fnExactCrewOkUptoRow.holds Try.pinned (OpenSpec.upto fnExactCrewOkSpec)

/-- 'laws.FnExactBusyUnits', WHERE WHAT IT READS IS OF BULK AT MOST 1048576: true; the input reads as it did. -/
def fnExactBusyUnitsUptoRow : OpenClaim := { program := "ytpoiljbejllmiaa", sum := "e66ef1d546049473d839502258a86c9f9f67f2586301be2005741587a00bf120", func := "loop.example/g00710/laws.FnExactBusyUnits", spec := "fnExactBusyUnits", unfollowed := true, recurses := true, apart := false, narrowed := true }
def FnExactBusyUnitsUptoSaid : Prop := fnExactBusyUnitsUptoRow.holds Try.pinned (OpenSpec.upto fnExactBusyUnitsSpec)

/-- 'laws.FnExactTicksLeft', WHERE WHAT IT READS IS OF BULK AT MOST 1048576: true; the input reads as it did. -/
def fnExactTicksLeftUptoRow : OpenClaim := { program := "ytpoiljbejllmiaa", sum := "e66ef1d546049473d839502258a86c9f9f67f2586301be2005741587a00bf120", func := "loop.example/g00710/laws.FnExactTicksLeft", spec := "fnExactTicksLeft", unfollowed := true, recurses := true, apart := false, narrowed := true }
def FnExactTicksLeftUptoSaid : Prop := fnExactTicksLeftUptoRow.holds Try.pinned (OpenSpec.upto fnExactTicksLeftSpec)

/-- 'laws.FnExactNewCrew', WHERE WHAT IT READS IS OF BULK AT MOST 1048576: true; the input reads as it did. -/
def fnExactNewCrewUptoRow : OpenClaim := { program := "ytpoiljbejllmiaa", sum := "e66ef1d546049473d839502258a86c9f9f67f2586301be2005741587a00bf120", func := "loop.example/g00710/laws.FnExactNewCrew", spec := "fnExactNewCrew", unfollowed := true, recurses := true, apart := false, narrowed := true }
def FnExactNewCrewUptoSaid : Prop := fnExactNewCrewUptoRow.holds Try.pinned (OpenSpec.upto fnExactNewCrewSpec)

/-- 'laws.FnExactIdleHand', WHERE WHAT IT READS IS OF BULK AT MOST 1048576: true; the input reads as it did. -/
def fnExactIdleHandUptoRow : OpenClaim := { program := "ytpoiljbejllmiaa", sum := "e66ef1d546049473d839502258a86c9f9f67f2586301be2005741587a00bf120", func := "loop.example/g00710/laws.FnExactIdleHand", spec := "fnExactIdleHand", unfollowed := true, recurses := true, apart := false, narrowed := true }
def FnExactIdleHandUptoSaid : Prop := fnExactIdleHandUptoRow.holds Try.pinned (OpenSpec.upto fnExactIdleHandSpec)

/-- 'laws.FnExactDropWork', WHERE WHAT IT READS IS OF BULK AT MOST 1048576: true; the input reads as it did. -/
def fnExactDropWorkUptoRow : OpenClaim := { program := "ytpoiljbejllmiaa", sum := "e66ef1d546049473d839502258a86c9f9f67f2586301be2005741587a00bf120", func := "loop.example/g00710/laws.FnExactDropWork", spec := "fnExactDropWork", unfollowed := true, recurses := true, apart := false, narrowed := true }
def FnExactDropWorkUptoSaid : Prop := fnExactDropWorkUptoRow.holds Try.pinned (OpenSpec.upto fnExactDropWorkSpec)

/-- 'laws.FnExactAssign', WHERE WHAT IT READS IS OF BULK AT MOST 1048576: true; the input reads as it did. -/
def fnExactAssignUptoRow : OpenClaim := { program := "ytpoiljbejllmiaa", sum := "e66ef1d546049473d839502258a86c9f9f67f2586301be2005741587a00bf120", func := "loop.example/g00710/laws.FnExactAssign", spec := "fnExactAssign", unfollowed := true, recurses := true, apart := false, narrowed := true }
def FnExactAssignUptoSaid : Prop := fnExactAssignUptoRow.holds Try.pinned (OpenSpec.upto fnExactAssignSpec)

/-- 'laws.FnExactTickCrew', WHERE WHAT IT READS IS OF BULK AT MOST 1048576: true; the input reads as it did. -/
def fnExactTickCrewUptoRow : OpenClaim := { program := "ytpoiljbejllmiaa", sum := "e66ef1d546049473d839502258a86c9f9f67f2586301be2005741587a00bf120", func := "loop.example/g00710/laws.FnExactTickCrew", spec := "fnExactTickCrew", unfollowed := true, recurses := true, apart := false, narrowed := true }
def FnExactTickCrewUptoSaid : Prop := fnExactTickCrewUptoRow.holds Try.pinned (OpenSpec.upto fnExactTickCrewSpec)

end Rows
end Go.Proofs.Ytpoiljbejllmiaa
