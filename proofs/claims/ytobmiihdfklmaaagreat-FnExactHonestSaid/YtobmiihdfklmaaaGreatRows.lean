/-
  No cell of these rows narrows 'for every input' (looked for: loops, veiled, ifaces, maps, wideKeys, modest, calm, conditions, laid).
  DERIVED. THE GIVEN ROWS OF THIS SEAT. 3 by the template 'for every input the law returns true; each argument reads behind the call as it read before'; 0 by the template 'total and deterministic' (their statements: YtobmiihdfklmaaaGreatTotals.lean).
  GIVEN WITH THE SEED: the statements are not yours to turn. If you find one false, say at which input.
  Laid BY PROGRAM, IN A SANDBOX (cutbox-rows.mjs): the forced cells as the released guide's own fill.sh prints them over the translation 4fd6df4c6b80f894… (all of the seat's roots in one cut). By AI agents, Wed Nov 11 2026. No macro, syntax, notation, axiom, sorry.
-/
import Derived.Test.YtobmiihdfklmaaaGreatChecked
import GoSem.Claim
import GoSem.ClaimJoined
import GoSem.ClaimMapViews
import Derived.JoinedTies
import Derived.KernelRfl
namespace Go.Proofs.YtobmiihdfklmaaaGreat
/- THE CELL 'sum', in the pinned program and in every row, IS THE sha256 OF THE DUMP (.gsa) THAT YtobmiihdfklmaaaGreatProg.lean LOADS. Nothing in Lean hashes anything: it is a label: what it is worth is what the hold of that sum in a sandbox is worth. -/
noncomputable def Tryz.pinned : Pinned := { name := "ytobmiihdfklmaaagreat", sum := "4fd6df4c6b80f894039a3057f63895344b02a3a222614ef71f4e17bdf4b55882", checked := Tryz.checked }
namespace Rows
def none {H : Type} : Left H := { results := [], args := [] }

/-- 'laws.FnExactRunJob': WHATEVER THE INPUT: true; the input reads as it did. -/
def fnExactRunJobSpec : ChangeSpec := { name := "fnExactRunJob", fn := fun _ => fun
  | [d] => { results := [.lit (.bool true)], args := [d] }
  | _ => none }
def fnExactRunJobRow : OpenClaim := { program := "ytobmiihdfklmaaagreat", sum := "4fd6df4c6b80f894039a3057f63895344b02a3a222614ef71f4e17bdf4b55882", func := "loop.example/g00710/laws.FnExactRunJob", spec := "fnExactRunJob", apart := false }
def FnExactRunJobSaid : Prop := fnExactRunJobRow.holds Tryz.pinned (OpenSpec.ofChange fnExactRunJobSpec)

/-- ITS FALSE NEIGHBOUR: 'it returns false'. Refute it at one input. -/
def fnExactRunJobWrong : ChangeSpec := { name := "fnExactRunJob", fn := fun _ => fun
  | [d] => { results := [.lit (.bool false)], args := [d] }
  | _ => none }
def FnExactRunJobWrongFalsely : Prop := fnExactRunJobRow.holds Tryz.pinned (OpenSpec.ofChange fnExactRunJobWrong)

/-- 'laws.FnExactHonest': WHATEVER THE INPUT: true; the input reads as it did. -/
def fnExactHonestSpec : ChangeSpec := { name := "fnExactHonest", fn := fun _ => fun
  | [d] => { results := [.lit (.bool true)], args := [d] }
  | _ => none }
def fnExactHonestRow : OpenClaim := { program := "ytobmiihdfklmaaagreat", sum := "4fd6df4c6b80f894039a3057f63895344b02a3a222614ef71f4e17bdf4b55882", func := "loop.example/g00710/laws.FnExactHonest", spec := "fnExactHonest", unfollowed := true, recurses := true, apart := false }
def FnExactHonestSaid : Prop := fnExactHonestRow.holds Tryz.pinned (OpenSpec.ofChange fnExactHonestSpec)

/-- ITS FALSE NEIGHBOUR: 'it returns false'. Refute it at one input. -/
def fnExactHonestWrong : ChangeSpec := { name := "fnExactHonest", fn := fun _ => fun
  | [d] => { results := [.lit (.bool false)], args := [d] }
  | _ => none }
def FnExactHonestWrongFalsely : Prop := fnExactHonestRow.holds Tryz.pinned (OpenSpec.ofChange fnExactHonestWrong)

/-- 'laws.FnExactRunCached': WHATEVER THE INPUT: true; the input reads as it did. -/
def fnExactRunCachedSpec : ChangeSpec := { name := "fnExactRunCached", fn := fun _ => fun
  | [d1, d2] => { results := [.lit (.bool true)], args := [d1, d2] }
  | _ => none }
def fnExactRunCachedRow : OpenClaim := { program := "ytobmiihdfklmaaagreat", sum := "4fd6df4c6b80f894039a3057f63895344b02a3a222614ef71f4e17bdf4b55882", func := "loop.example/g00710/laws.FnExactRunCached", spec := "fnExactRunCached", inPlace := ["slices.overlaps[loop.example/g00710/impl.Entry]"], unfollowed := true, recurses := true, apart := false }
def FnExactRunCachedSaid : Prop := fnExactRunCachedRow.holds Tryz.pinned (OpenSpec.ofChange fnExactRunCachedSpec)

/-- ITS FALSE NEIGHBOUR: 'it returns false'. Refute it at one input. -/
def fnExactRunCachedWrong : ChangeSpec := { name := "fnExactRunCached", fn := fun _ => fun
  | [d1, d2] => { results := [.lit (.bool false)], args := [d1, d2] }
  | _ => none }
def FnExactRunCachedWrongFalsely : Prop := fnExactRunCachedRow.holds Tryz.pinned (OpenSpec.ofChange fnExactRunCachedWrong)

/- THE SECOND FORM. 'bulk': how many values and letters a reading holds, each counted each time it is reached (what is shared counts as often as it is met; a slice's spare places count too). A statement '..UptoSaid' is the law's where the arguments, and the package variables that the reading takes, are together of bulk at most 1048576: NARROWER than '..Said'. Prove '..Said' where nothing that the law and all that it calls make is longer than what came in: it says more and counts as full. Else prove '..UptoSaid'. A law counts once. -/
mutual
def uptoBulk {H : Type} : DataW H → Nat
  | .lit (.string bytes) => bytes.length + 1
  | .lit _ => 1
  | .nil => 1
  | .ptr d => uptoBulk d + 1
  | .slice elems spare => uptoBulkAll elems + uptoBulkAll spare + 1
  | .agg parts => uptoBulkAll parts + 1
  | .iface _ d => uptoBulk d + 1
  | .map entries => uptoBulkEntries entries + 1
  | .held _ => 1
def uptoBulkAll {H : Type} : List (DataW H) → Nat
  | [] => 0
  | d :: r => uptoBulk d + uptoBulkAll r
def uptoBulkEntries {H : Type} : List (Lit × DataW H) → Nat
  | [] => 0
  | x :: r => uptoBulkEntry x + uptoBulkEntries r
def uptoBulkEntry {H : Type} : Lit × DataW H → Nat
  | (.string bytes, d) => bytes.length + uptoBulk d + 1
  | (_, d) => uptoBulk d + 1
 end
def uptoSmall : (H : Type) → List (DataW H) → Bool := fun _ ds => decide (uptoBulkAll ds ≤ 1048576)
def OpenSpec.upto (s : _root_.Go.ChangeSpec) : _root_.Go.OpenSpec := { _root_.Go.OpenSpec.ofChange s with cond := some uptoSmall }

/-- 'laws.FnExactRunJob', WHERE WHAT IT READS IS OF BULK AT MOST 1048576: true; the input reads as it did. -/
def fnExactRunJobUptoRow : OpenClaim := { program := "ytobmiihdfklmaaagreat", sum := "4fd6df4c6b80f894039a3057f63895344b02a3a222614ef71f4e17bdf4b55882", func := "loop.example/g00710/laws.FnExactRunJob", spec := "fnExactRunJob", apart := false, narrowed := true }
def FnExactRunJobUptoSaid : Prop := fnExactRunJobUptoRow.holds Tryz.pinned (OpenSpec.upto fnExactRunJobSpec)

/-- 'laws.FnExactHonest', WHERE WHAT IT READS IS OF BULK AT MOST 1048576: true; the input reads as it did. -/
def fnExactHonestUptoRow : OpenClaim := { program := "ytobmiihdfklmaaagreat", sum := "4fd6df4c6b80f894039a3057f63895344b02a3a222614ef71f4e17bdf4b55882", func := "loop.example/g00710/laws.FnExactHonest", spec := "fnExactHonest", unfollowed := true, recurses := true, apart := false, narrowed := true }
def FnExactHonestUptoSaid : Prop := fnExactHonestUptoRow.holds Tryz.pinned (OpenSpec.upto fnExactHonestSpec)

/-- 'laws.FnExactRunCached', WHERE WHAT IT READS IS OF BULK AT MOST 1048576: true; the input reads as it did. -/
def fnExactRunCachedUptoRow : OpenClaim := { program := "ytobmiihdfklmaaagreat", sum := "4fd6df4c6b80f894039a3057f63895344b02a3a222614ef71f4e17bdf4b55882", func := "loop.example/g00710/laws.FnExactRunCached", spec := "fnExactRunCached", inPlace := ["slices.overlaps[loop.example/g00710/impl.Entry]"], unfollowed := true, recurses := true, apart := false, narrowed := true }
def FnExactRunCachedUptoSaid : Prop := fnExactRunCachedUptoRow.holds Tryz.pinned (OpenSpec.upto fnExactRunCachedSpec)

end Rows
end Go.Proofs.YtobmiihdfklmaaaGreat
