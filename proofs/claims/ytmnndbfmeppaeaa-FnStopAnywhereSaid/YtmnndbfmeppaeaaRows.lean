/-
  No cell of these rows narrows 'for every input' (looked for: loops, veiled, ifaces, maps, wideKeys, modest, calm, conditions, laid).
  DERIVED. THE GIVEN ROWS OF THIS SEAT. 6 by the template 'for every input the law returns true; each argument reads behind the call as it read before'; 0 by the template 'total and deterministic' (their statements: YtmnndbfmeppaeaaTotals.lean).
  GIVEN WITH THE SEED: the statements are not yours to turn. If you find one false, say at which input.
  Laid BY PROGRAM, IN A SANDBOX (cutbox-rows.mjs): the forced cells as the released guide's own fill.sh prints them over the translation 341dfc4f1c93c374… (all of the seat's roots in one cut). By AI agents, Wed Nov 11 2026. No macro, syntax, notation, axiom, sorry.
-/
import Derived.Test.YtmnndbfmeppaeaaChecked
import GoSem.Claim
import GoSem.ClaimJoined
import GoSem.ClaimMapViews
import Derived.JoinedTies
import Derived.KernelRfl
namespace Go.Proofs.Ytmnndbfmeppaeaa
/- THE CELL 'sum', in the pinned program and in every row, IS THE sha256 OF THE DUMP (.gsa) THAT YtmnndbfmeppaeaaProg.lean LOADS. Nothing in Lean hashes anything: it is a label: what it is worth is what the hold of that sum in a sandbox is worth. -/
noncomputable def Try.pinned : Pinned := { name := "ytmnndbfmeppaeaa", sum := "341dfc4f1c93c37491be27fd59fc7e7e9dfb1329e5164cda2e1c7701eead58a7", checked := Try.checked }
namespace Rows
def none {H : Type} : Left H := { results := [], args := [] }

/-- 'laws.FnExactTurnerOk': WHATEVER THE INPUT: true; the input reads as it did. -/
def fnExactTurnerOkSpec : ChangeSpec := { name := "fnExactTurnerOk", fn := fun _ => fun
  | [d] => { results := [.lit (.bool true)], args := [d] }
  | _ => none }
def fnExactTurnerOkRow : OpenClaim := { program := "ytmnndbfmeppaeaa", sum := "341dfc4f1c93c37491be27fd59fc7e7e9dfb1329e5164cda2e1c7701eead58a7", func := "loop.example/g00710/laws.FnExactTurnerOk", spec := "fnExactTurnerOk", apart := false }
def FnExactTurnerOkSaid : Prop := fnExactTurnerOkRow.holds Try.pinned (OpenSpec.ofChange fnExactTurnerOkSpec)

/-- ITS FALSE NEIGHBOUR: 'it returns false'. Refute it at one input. -/
def fnExactTurnerOkWrong : ChangeSpec := { name := "fnExactTurnerOk", fn := fun _ => fun
  | [d] => { results := [.lit (.bool false)], args := [d] }
  | _ => none }
def FnExactTurnerOkWrongFalsely : Prop := fnExactTurnerOkRow.holds Try.pinned (OpenSpec.ofChange fnExactTurnerOkWrong)

/-- 'laws.FnExactLeftUnits': WHATEVER THE INPUT: true; the input reads as it did. -/
def fnExactLeftUnitsSpec : ChangeSpec := { name := "fnExactLeftUnits", fn := fun _ => fun
  | [d] => { results := [.lit (.bool true)], args := [d] }
  | _ => none }
def fnExactLeftUnitsRow : OpenClaim := { program := "ytmnndbfmeppaeaa", sum := "341dfc4f1c93c37491be27fd59fc7e7e9dfb1329e5164cda2e1c7701eead58a7", func := "loop.example/g00710/laws.FnExactLeftUnits", spec := "fnExactLeftUnits", apart := false }
def FnExactLeftUnitsSaid : Prop := fnExactLeftUnitsRow.holds Try.pinned (OpenSpec.ofChange fnExactLeftUnitsSpec)

/-- ITS FALSE NEIGHBOUR: 'it returns false'. Refute it at one input. -/
def fnExactLeftUnitsWrong : ChangeSpec := { name := "fnExactLeftUnits", fn := fun _ => fun
  | [d] => { results := [.lit (.bool false)], args := [d] }
  | _ => none }
def FnExactLeftUnitsWrongFalsely : Prop := fnExactLeftUnitsRow.holds Try.pinned (OpenSpec.ofChange fnExactLeftUnitsWrong)

/-- 'laws.FnExactFinished': WHATEVER THE INPUT: true; the input reads as it did. -/
def fnExactFinishedSpec : ChangeSpec := { name := "fnExactFinished", fn := fun _ => fun
  | [d] => { results := [.lit (.bool true)], args := [d] }
  | _ => none }
def fnExactFinishedRow : OpenClaim := { program := "ytmnndbfmeppaeaa", sum := "341dfc4f1c93c37491be27fd59fc7e7e9dfb1329e5164cda2e1c7701eead58a7", func := "loop.example/g00710/laws.FnExactFinished", spec := "fnExactFinished", apart := false }
def FnExactFinishedSaid : Prop := fnExactFinishedRow.holds Try.pinned (OpenSpec.ofChange fnExactFinishedSpec)

/-- ITS FALSE NEIGHBOUR: 'it returns false'. Refute it at one input. -/
def fnExactFinishedWrong : ChangeSpec := { name := "fnExactFinished", fn := fun _ => fun
  | [d] => { results := [.lit (.bool false)], args := [d] }
  | _ => none }
def FnExactFinishedWrongFalsely : Prop := fnExactFinishedRow.holds Try.pinned (OpenSpec.ofChange fnExactFinishedWrong)

/-- 'laws.FnExactStartTurner': WHATEVER THE INPUT: true; the input reads as it did. -/
def fnExactStartTurnerSpec : ChangeSpec := { name := "fnExactStartTurner", fn := fun _ => fun
  | [d1, d2] => { results := [.lit (.bool true)], args := [d1, d2] }
  | _ => none }
def fnExactStartTurnerRow : OpenClaim := { program := "ytmnndbfmeppaeaa", sum := "341dfc4f1c93c37491be27fd59fc7e7e9dfb1329e5164cda2e1c7701eead58a7", func := "loop.example/g00710/laws.FnExactStartTurner", spec := "fnExactStartTurner", apart := false }
def FnExactStartTurnerSaid : Prop := fnExactStartTurnerRow.holds Try.pinned (OpenSpec.ofChange fnExactStartTurnerSpec)

/-- ITS FALSE NEIGHBOUR: 'it returns false'. Refute it at one input. -/
def fnExactStartTurnerWrong : ChangeSpec := { name := "fnExactStartTurner", fn := fun _ => fun
  | [d1, d2] => { results := [.lit (.bool false)], args := [d1, d2] }
  | _ => none }
def FnExactStartTurnerWrongFalsely : Prop := fnExactStartTurnerRow.holds Try.pinned (OpenSpec.ofChange fnExactStartTurnerWrong)

/-- 'laws.FnExactAdvance': WHATEVER THE INPUT: true; the input reads as it did. -/
def fnExactAdvanceSpec : ChangeSpec := { name := "fnExactAdvance", fn := fun _ => fun
  | [d1, d2] => { results := [.lit (.bool true)], args := [d1, d2] }
  | _ => none }
def fnExactAdvanceRow : OpenClaim := { program := "ytmnndbfmeppaeaa", sum := "341dfc4f1c93c37491be27fd59fc7e7e9dfb1329e5164cda2e1c7701eead58a7", func := "loop.example/g00710/laws.FnExactAdvance", spec := "fnExactAdvance", apart := false }
def FnExactAdvanceSaid : Prop := fnExactAdvanceRow.holds Try.pinned (OpenSpec.ofChange fnExactAdvanceSpec)

/-- ITS FALSE NEIGHBOUR: 'it returns false'. Refute it at one input. -/
def fnExactAdvanceWrong : ChangeSpec := { name := "fnExactAdvance", fn := fun _ => fun
  | [d1, d2] => { results := [.lit (.bool false)], args := [d1, d2] }
  | _ => none }
def FnExactAdvanceWrongFalsely : Prop := fnExactAdvanceRow.holds Try.pinned (OpenSpec.ofChange fnExactAdvanceWrong)

/-- 'laws.FnStopAnywhere': WHATEVER THE INPUT: true; the input reads as it did. -/
def fnStopAnywhereSpec : ChangeSpec := { name := "fnStopAnywhere", fn := fun _ => fun
  | [d] => { results := [.lit (.bool true)], args := [d] }
  | _ => none }
def fnStopAnywhereRow : OpenClaim := { program := "ytmnndbfmeppaeaa", sum := "341dfc4f1c93c37491be27fd59fc7e7e9dfb1329e5164cda2e1c7701eead58a7", func := "loop.example/g00710/laws.FnStopAnywhere", spec := "fnStopAnywhere", apart := false }
def FnStopAnywhereSaid : Prop := fnStopAnywhereRow.holds Try.pinned (OpenSpec.ofChange fnStopAnywhereSpec)

/-- ITS FALSE NEIGHBOUR: 'it returns false'. Refute it at one input. -/
def fnStopAnywhereWrong : ChangeSpec := { name := "fnStopAnywhere", fn := fun _ => fun
  | [d] => { results := [.lit (.bool false)], args := [d] }
  | _ => none }
def FnStopAnywhereWrongFalsely : Prop := fnStopAnywhereRow.holds Try.pinned (OpenSpec.ofChange fnStopAnywhereWrong)

/- THE SECOND FORM. 'bulk': how many values and letters a reading holds, each counted each time it is reached (what is shared counts as often as it is met; a slice's spare places count too). A statement '..UptoSaid' is the law's where the arguments, and the package variables that the reading takes, are together of bulk at most 1048576: NARROWER than '..Said'. Prove '..Said' where nothing that the law and all that it calls make is longer than what came in: it says more and counts as full. Else prove '..UptoSaid'. A law counts once. -/
mutual
def uptoBulk {H : Type} : DataW H → Nat
  | .lit (.string bytes) => bytes.length + 1
  | .lit _ => 1
  | .nil => 1
  | .ptr d => uptoBulk d + 1
  | .slice elems spare => uptoBulkAll elems + uptoBulkAll spare + 1
  | .agg parts => uptoBulkAll parts + 1
  | .iface _ d => uptoBulk d + 1
  | .map entries => uptoBulkEntries entries + 1
  | .held _ => 1
def uptoBulkAll {H : Type} : List (DataW H) → Nat
  | [] => 0
  | d :: r => uptoBulk d + uptoBulkAll r
def uptoBulkEntries {H : Type} : List (Lit × DataW H) → Nat
  | [] => 0
  | x :: r => uptoBulkEntry x + uptoBulkEntries r
def uptoBulkEntry {H : Type} : Lit × DataW H → Nat
  | (.string bytes, d) => bytes.length + uptoBulk d + 1
  | (_, d) => uptoBulk d + 1
 end
def uptoSmall : (H : Type) → List (DataW H) → Bool := fun _ ds => decide (uptoBulkAll ds ≤ 1048576)
def OpenSpec.upto (s : _root_.Go.ChangeSpec) : _root_.Go.OpenSpec := { _root_.Go.OpenSpec.ofChange s with cond := some uptoSmall }

/-- 'laws.FnExactTurnerOk', WHERE WHAT IT READS IS OF BULK AT MOST 1048576: true; the input reads as it did. -/
def fnExactTurnerOkUptoRow : OpenClaim := { program := "ytmnndbfmeppaeaa", sum := "341dfc4f1c93c37491be27fd59fc7e7e9dfb1329e5164cda2e1c7701eead58a7", func := "loop.example/g00710/laws.FnExactTurnerOk", spec := "fnExactTurnerOk", apart := false, narrowed := true }
def FnExactTurnerOkUptoSaid : Prop := fnExactTurnerOkUptoRow.holds Try.pinned (OpenSpec.upto fnExactTurnerOkSpec)

/-- 'laws.FnExactLeftUnits', WHERE WHAT IT READS IS OF BULK AT MOST 1048576: true; the input reads as it did. -/
def fnExactLeftUnitsUptoRow : OpenClaim := { program := "ytmnndbfmeppaeaa", sum := "341dfc4f1c93c37491be27fd59fc7e7e9dfb1329e5164cda2e1c7701eead58a7", func := "loop.example/g00710/laws.FnExactLeftUnits", spec := "fnExactLeftUnits", apart := false, narrowed := true }
def FnExactLeftUnitsUptoSaid : Prop := fnExactLeftUnitsUptoRow.holds Try.pinned (OpenSpec.upto fnExactLeftUnitsSpec)

/-- 'laws.FnExactFinished', WHERE WHAT IT READS IS OF BULK AT MOST 1048576: true; the input reads as it did. -/
def fnExactFinishedUptoRow : OpenClaim := { program := "ytmnndbfmeppaeaa", sum := "341dfc4f1c93c37491be27fd59fc7e7e9dfb1329e5164cda2e1c7701eead58a7", func := "loop.example/g00710/laws.FnExactFinished", spec := "fnExactFinished", apart := false, narrowed := true }
def FnExactFinishedUptoSaid : Prop := fnExactFinishedUptoRow.holds Try.pinned (OpenSpec.upto fnExactFinishedSpec)

/-- 'laws.FnExactStartTurner', WHERE WHAT IT READS IS OF BULK AT MOST 1048576: true; the input reads as it did. -/
def fnExactStartTurnerUptoRow : OpenClaim := { program := "ytmnndbfmeppaeaa", sum := "341dfc4f1c93c37491be27fd59fc7e7e9dfb1329e5164cda2e1c7701eead58a7", func := "loop.example/g00710/laws.FnExactStartTurner", spec := "fnExactStartTurner", apart := false, narrowed := true }
def FnExactStartTurnerUptoSaid : Prop := fnExactStartTurnerUptoRow.holds Try.pinned (OpenSpec.upto fnExactStartTurnerSpec)

/-- 'laws.FnExactAdvance', WHERE WHAT IT READS IS OF BULK AT MOST 1048576: true; the input reads as it did. -/
def fnExactAdvanceUptoRow : OpenClaim := { program := "ytmnndbfmeppaeaa", sum := "341dfc4f1c93c37491be27fd59fc7e7e9dfb1329e5164cda2e1c7701eead58a7", func := "loop.example/g00710/laws.FnExactAdvance", spec := "fnExactAdvance", apart := false, narrowed := true }
def FnExactAdvanceUptoSaid : Prop := fnExactAdvanceUptoRow.holds Try.pinned (OpenSpec.upto fnExactAdvanceSpec)

/-- 'laws.FnStopAnywhere', WHERE WHAT IT READS IS OF BULK AT MOST 1048576: true; the input reads as it did. -/
def fnStopAnywhereUptoRow : OpenClaim := { program := "ytmnndbfmeppaeaa", sum := "341dfc4f1c93c37491be27fd59fc7e7e9dfb1329e5164cda2e1c7701eead58a7", func := "loop.example/g00710/laws.FnStopAnywhere", spec := "fnStopAnywhere", apart := false, narrowed := true }
def FnStopAnywhereUptoSaid : Prop := fnStopAnywhereUptoRow.holds Try.pinned (OpenSpec.upto fnStopAnywhereSpec)

end Rows
end Go.Proofs.Ytmnndbfmeppaeaa
