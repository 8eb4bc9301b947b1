/-
  No cell of these rows narrows 'for every input' (looked for: loops, veiled, ifaces, maps, wideKeys, modest, calm, conditions, laid).
  DERIVED. THE GIVEN ROWS OF THIS SEAT. 4 by the template 'for every input the law returns true; each argument reads behind the call as it read before'; 0 by the template 'total and deterministic' (their statements: YtncmhenfgbcihabGreatTotals.lean).
  GIVEN WITH THE SEED: the statements are not yours to turn. If you find one false, say at which input.
  Laid BY PROGRAM, IN A SANDBOX (cutbox-rows.mjs): the forced cells as the released guide's own fill.sh prints them over the translation 70fbb0740ab7ae6d… (all of the seat's roots in one cut). By AI agents, Wed Nov 11 2026. No macro, syntax, notation, axiom, sorry.
-/
import Derived.Test.YtncmhenfgbcihabGreatChecked
import GoSem.Claim
import GoSem.ClaimJoined
import GoSem.ClaimMapViews
import Derived.JoinedTies
import Derived.KernelRfl
namespace Go.Proofs.YtncmhenfgbcihabGreat
/- THE CELL 'sum', in the pinned program and in every row, IS THE sha256 OF THE DUMP (.gsa) THAT YtncmhenfgbcihabGreatProg.lean LOADS. Nothing in Lean hashes anything: it is a label: what it is worth is what the hold of that sum in a sandbox is worth. -/
noncomputable def Tryz.pinned : Pinned := { name := "ytncmhenfgbcihabgreat", sum := "70fbb0740ab7ae6d1cb7f890225e3346f087ba0243af0253c4a15bdca2a23bd3", checked := Tryz.checked }
namespace Rows
def none {H : Type} : Left H := { results := [], args := [] }

/-- 'crosswalklaw.SrunRuns': WHATEVER THE INPUT: true; the input reads as it did. -/
def srunRunsSpec : ChangeSpec := { name := "srunRuns", fn := fun _ => fun
  | [d1, d2, d3, d4, d5] => { results := [.lit (.bool true)], args := [d1, d2, d3, d4, d5] }
  | _ => none }
def srunRunsRow : OpenClaim := { program := "ytncmhenfgbcihabgreat", sum := "70fbb0740ab7ae6d1cb7f890225e3346f087ba0243af0253c4a15bdca2a23bd3", func := "crosswalk/crosswalklaw.SrunRuns", spec := "srunRuns", unfollowed := true, recurses := true, plainKeys := false, apart := false }
def SrunRunsSaid : Prop := srunRunsRow.holds Tryz.pinned (OpenSpec.ofChange srunRunsSpec)

/-- ITS FALSE NEIGHBOUR: 'it returns false'. Refute it at one input. -/
def srunRunsWrong : ChangeSpec := { name := "srunRuns", fn := fun _ => fun
  | [d1, d2, d3, d4, d5] => { results := [.lit (.bool false)], args := [d1, d2, d3, d4, d5] }
  | _ => none }
def SrunRunsWrongFalsely : Prop := srunRunsRow.holds Tryz.pinned (OpenSpec.ofChange srunRunsWrong)

/-- 'crosswalklaw.TidySame': WHATEVER THE INPUT: true; the input reads as it did. -/
def tidySameSpec : ChangeSpec := { name := "tidySame", fn := fun _ => fun
  | [d1, d2, d3, d4, d5] => { results := [.lit (.bool true)], args := [d1, d2, d3, d4, d5] }
  | _ => none }
def tidySameRow : OpenClaim := { program := "ytncmhenfgbcihabgreat", sum := "70fbb0740ab7ae6d1cb7f890225e3346f087ba0243af0253c4a15bdca2a23bd3", func := "crosswalk/crosswalklaw.TidySame", spec := "tidySame", unfollowed := true, recurses := true, plainKeys := false, apart := false }
def TidySameSaid : Prop := tidySameRow.holds Tryz.pinned (OpenSpec.ofChange tidySameSpec)

/-- ITS FALSE NEIGHBOUR: 'it returns false'. Refute it at one input. -/
def tidySameWrong : ChangeSpec := { name := "tidySame", fn := fun _ => fun
  | [d1, d2, d3, d4, d5] => { results := [.lit (.bool false)], args := [d1, d2, d3, d4, d5] }
  | _ => none }
def TidySameWrongFalsely : Prop := tidySameRow.holds Tryz.pinned (OpenSpec.ofChange tidySameWrong)

/-- 'crosswalklaw.ToregSame': WHATEVER THE INPUT: true; the input reads as it did. -/
def toregSameSpec : ChangeSpec := { name := "toregSame", fn := fun _ => fun
  | [d1, d2, d3, d4, d5] => { results := [.lit (.bool true)], args := [d1, d2, d3, d4, d5] }
  | _ => none }
def toregSameRow : OpenClaim := { program := "ytncmhenfgbcihabgreat", sum := "70fbb0740ab7ae6d1cb7f890225e3346f087ba0243af0253c4a15bdca2a23bd3", func := "crosswalk/crosswalklaw.ToregSame", spec := "toregSame", unfollowed := true, recurses := true, plainKeys := false, apart := false }
def ToregSameSaid : Prop := toregSameRow.holds Tryz.pinned (OpenSpec.ofChange toregSameSpec)

/-- ITS FALSE NEIGHBOUR: 'it returns false'. Refute it at one input. -/
def toregSameWrong : ChangeSpec := { name := "toregSame", fn := fun _ => fun
  | [d1, d2, d3, d4, d5] => { results := [.lit (.bool false)], args := [d1, d2, d3, d4, d5] }
  | _ => none }
def ToregSameWrongFalsely : Prop := toregSameRow.holds Tryz.pinned (OpenSpec.ofChange toregSameWrong)

/-- 'crosswalklaw.RrunRuns': WHATEVER THE INPUT: true; the input reads as it did. -/
def rrunRunsSpec : ChangeSpec := { name := "rrunRuns", fn := fun _ => fun
  | [d1, d2, d3, d4, d5] => { results := [.lit (.bool true)], args := [d1, d2, d3, d4, d5] }
  | _ => none }
def rrunRunsRow : OpenClaim := { program := "ytncmhenfgbcihabgreat", sum := "70fbb0740ab7ae6d1cb7f890225e3346f087ba0243af0253c4a15bdca2a23bd3", func := "crosswalk/crosswalklaw.RrunRuns", spec := "rrunRuns", unfollowed := true, recurses := true, plainKeys := false, apart := false }
def RrunRunsSaid : Prop := rrunRunsRow.holds Tryz.pinned (OpenSpec.ofChange rrunRunsSpec)

/-- ITS FALSE NEIGHBOUR: 'it returns false'. Refute it at one input. -/
def rrunRunsWrong : ChangeSpec := { name := "rrunRuns", fn := fun _ => fun
  | [d1, d2, d3, d4, d5] => { results := [.lit (.bool false)], args := [d1, d2, d3, d4, d5] }
  | _ => none }
def RrunRunsWrongFalsely : Prop := rrunRunsRow.holds Tryz.pinned (OpenSpec.ofChange rrunRunsWrong)

/- THE SECOND FORM. 'bulk': how many values and letters a reading holds, each counted each time it is reached (what is shared counts as often as it is met; a slice's spare places count too). A statement '..UptoSaid' is the law's where the arguments, and the package variables that the reading takes, are together of bulk at most 1048576: NARROWER than '..Said'. Prove '..Said' where nothing that the law and all that it calls make is longer than what came in: it says more and counts as full. Else prove '..UptoSaid'. A law counts once. -/
mutual
def uptoBulk {H : Type} : DataW H → Nat
  | .lit (.string bytes) => bytes.length + 1
  | .lit _ => 1
  | .nil => 1
  | .ptr d => uptoBulk d + 1
  | .slice elems spare => uptoBulkAll elems + uptoBulkAll spare + 1
  | .agg parts => uptoBulkAll parts + 1
  | .iface _ d => uptoBulk d + 1
  | .map entries => uptoBulkEntries entries + 1
  | .held _ => 1
def uptoBulkAll {H : Type} : List (DataW H) → Nat
  | [] => 0
  | d :: r => uptoBulk d + uptoBulkAll r
def uptoBulkEntries {H : Type} : List (Lit × DataW H) → Nat
  | [] => 0
  | x :: r => uptoBulkEntry x + uptoBulkEntries r
def uptoBulkEntry {H : Type} : Lit × DataW H → Nat
  | (.string bytes, d) => bytes.length + uptoBulk d + 1
  | (_, d) => uptoBulk d + 1
 end
def uptoSmall : (H : Type) → List (DataW H) → Bool := fun _ ds => decide (uptoBulkAll ds ≤ 1048576)
def OpenSpec.upto (s : _root_.Go.ChangeSpec) : _root_.Go.OpenSpec := { _root_.Go.OpenSpec.ofChange s with cond := some uptoSmall }

/-- 'crosswalklaw.SrunRuns', WHERE WHAT IT READS IS OF BULK AT MOST 1048576: true; the input reads as it did. -/
def srunRunsUptoRow : OpenClaim := { program := "ytncmhenfgbcihabgreat", sum := "70fbb0740ab7ae6d1cb7f890225e3346f087ba0243af0253c4a15bdca2a23bd3", func := "crosswalk/crosswalklaw.SrunRuns", spec := "srunRuns", unfollowed := true, recurses := true, plainKeys := false, apart := false, narrowed := true }
def SrunRunsUptoSaid : Prop := srunRunsUptoRow.holds Tryz.pinned (OpenSpec.upto srunRunsSpec)

/-- 'crosswalklaw.TidySame', WHERE WHAT IT READS IS OF BULK AT MOST 1048576: true; the input reads as it did. -/
def tidySameUptoRow : OpenClaim := { program := "ytncmhenfgbcihabgreat", sum := "70fbb0740ab7ae6d1cb7f890225e3346f087ba0243af0253c4a15bdca2a23bd3", func := "crosswalk/crosswalklaw.TidySame", spec := "tidySame", unfollowed := true, recurses := true, plainKeys := false, apart := false, narrowed := true }
def TidySameUptoSaid : Prop := tidySameUptoRow.holds Tryz.pinned (OpenSpec.upto tidySameSpec)

/-- 'crosswalklaw.ToregSame', WHERE WHAT IT READS IS OF BULK AT MOST 1048576: true; the input reads as it did. -/
def toregSameUptoRow : OpenClaim := { program := "ytncmhenfgbcihabgreat", sum := "70fbb0740ab7ae6d1cb7f890225e3346f087ba0243af0253c4a15bdca2a23bd3", func := "crosswalk/crosswalklaw.ToregSame", spec := "toregSame", unfollowed := true, recurses := true, plainKeys := false, apart := false, narrowed := true }
def ToregSameUptoSaid : Prop := toregSameUptoRow.holds Tryz.pinned (OpenSpec.upto toregSameSpec)

/-- 'crosswalklaw.RrunRuns', WHERE WHAT IT READS IS OF BULK AT MOST 1048576: true; the input reads as it did. -/
def rrunRunsUptoRow : OpenClaim := { program := "ytncmhenfgbcihabgreat", sum := "70fbb0740ab7ae6d1cb7f890225e3346f087ba0243af0253c4a15bdca2a23bd3", func := "crosswalk/crosswalklaw.RrunRuns", spec := "rrunRuns", unfollowed := true, recurses := true, plainKeys := false, apart := false, narrowed := true }
def RrunRunsUptoSaid : Prop := rrunRunsUptoRow.holds Tryz.pinned (OpenSpec.upto rrunRunsSpec)

end Rows
end Go.Proofs.YtncmhenfgbcihabGreat
