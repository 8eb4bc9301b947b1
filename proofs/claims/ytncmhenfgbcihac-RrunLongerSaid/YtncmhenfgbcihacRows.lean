/-
  No cell of these rows narrows 'for every input' (looked for: loops, veiled, ifaces, maps, wideKeys, modest, calm, conditions, laid).
  DERIVED. THE GIVEN ROWS OF THIS SEAT. 2 by the template 'for every input the law returns true; each argument reads behind the call as it read before'; 0 by the template 'total and deterministic' (their statements: YtncmhenfgbcihacTotals.lean).
  GIVEN WITH THE SEED: the statements are not yours to turn. If you find one false, say at which input.
  Laid BY PROGRAM, IN A SANDBOX (cutbox-rows.mjs): the forced cells as the released guide's own fill.sh prints them over the translation 6eed0024b65828a2… (all of the seat's roots in one cut). By AI agents, Wed Nov 11 2026. No macro, syntax, notation, axiom, sorry.
-/
import Derived.Test.YtncmhenfgbcihacChecked
import GoSem.Claim
import GoSem.ClaimJoined
import GoSem.ClaimMapViews
import Derived.JoinedTies
import Derived.KernelRfl
namespace Go.Proofs.Ytncmhenfgbcihac
/- THE CELL 'sum', in the pinned program and in every row, IS THE sha256 OF THE DUMP (.gsa) THAT YtncmhenfgbcihacProg.lean LOADS. Nothing in Lean hashes anything: it is a label: what it is worth is what the hold of that sum in a sandbox is worth. -/
noncomputable def Try.pinned : Pinned := { name := "ytncmhenfgbcihac", sum := "6eed0024b65828a2a229d80838b0d4c1c5ecff95ab42959b7f53e5c638054d22", checked := Try.checked }
namespace Rows
def none {H : Type} : Left H := { results := [], args := [] }

/-- 'crosswalkkeep.RrunLonger': WHATEVER THE INPUT: true; the input reads as it did. -/
def rrunLongerSpec : ChangeSpec := { name := "rrunLonger", fn := fun _ => fun
  | [d1, d2, d3, d4, d5, d6] => { results := [.lit (.bool true)], args := [d1, d2, d3, d4, d5, d6] }
  | _ => none }
def rrunLongerRow : OpenClaim := { program := "ytncmhenfgbcihac", sum := "6eed0024b65828a2a229d80838b0d4c1c5ecff95ab42959b7f53e5c638054d22", func := "crosswalk/crosswalkkeep.RrunLonger", spec := "rrunLonger", unfollowed := true, recurses := true, plainKeys := false, apart := false }
def RrunLongerSaid : Prop := rrunLongerRow.holds Try.pinned (OpenSpec.ofChange rrunLongerSpec)

/-- ITS FALSE NEIGHBOUR: 'it returns false'. Refute it at one input. -/
def rrunLongerWrong : ChangeSpec := { name := "rrunLonger", fn := fun _ => fun
  | [d1, d2, d3, d4, d5, d6] => { results := [.lit (.bool false)], args := [d1, d2, d3, d4, d5, d6] }
  | _ => none }
def RrunLongerWrongFalsely : Prop := rrunLongerRow.holds Try.pinned (OpenSpec.ofChange rrunLongerWrong)

/-- 'crosswalklaw.TostackMakes': WHATEVER THE INPUT: true; the input reads as it did. -/
def tostackMakesSpec : ChangeSpec := { name := "tostackMakes", fn := fun _ => fun
  | [d] => { results := [.lit (.bool true)], args := [d] }
  | _ => none }
def tostackMakesRow : OpenClaim := { program := "ytncmhenfgbcihac", sum := "6eed0024b65828a2a229d80838b0d4c1c5ecff95ab42959b7f53e5c638054d22", func := "crosswalk/crosswalklaw.TostackMakes", spec := "tostackMakes", unfollowed := true, recurses := true, plainKeys := false, apart := false }
def TostackMakesSaid : Prop := tostackMakesRow.holds Try.pinned (OpenSpec.ofChange tostackMakesSpec)

/-- ITS FALSE NEIGHBOUR: 'it returns false'. Refute it at one input. -/
def tostackMakesWrong : ChangeSpec := { name := "tostackMakes", fn := fun _ => fun
  | [d] => { results := [.lit (.bool false)], args := [d] }
  | _ => none }
def TostackMakesWrongFalsely : Prop := tostackMakesRow.holds Try.pinned (OpenSpec.ofChange tostackMakesWrong)

/- THE SECOND FORM. 'bulk': how many values and letters a reading holds, each counted each time it is reached (what is shared counts as often as it is met; a slice's spare places count too). A statement '..UptoSaid' is the law's where the arguments, and the package variables that the reading takes, are together of bulk at most 1048576: NARROWER than '..Said'. Prove '..Said' where nothing that the law and all that it calls make is longer than what came in: it says more and counts as full. Else prove '..UptoSaid'. A law counts once. -/
mutual
def uptoBulk {H : Type} : DataW H → Nat
  | .lit (.string bytes) => bytes.length + 1
  | .lit _ => 1
  | .nil => 1
  | .ptr d => uptoBulk d + 1
  | .slice elems spare => uptoBulkAll elems + uptoBulkAll spare + 1
  | .agg parts => uptoBulkAll parts + 1
  | .iface _ d => uptoBulk d + 1
  | .map entries => uptoBulkEntries entries + 1
  | .held _ => 1
def uptoBulkAll {H : Type} : List (DataW H) → Nat
  | [] => 0
  | d :: r => uptoBulk d + uptoBulkAll r
def uptoBulkEntries {H : Type} : List (Lit × DataW H) → Nat
  | [] => 0
  | x :: r => uptoBulkEntry x + uptoBulkEntries r
def uptoBulkEntry {H : Type} : Lit × DataW H → Nat
  | (.string bytes, d) => bytes.length + uptoBulk d + 1
  | (_, d) => uptoBulk d + 1
 end
def uptoSmall : (H : Type) → List (DataW H) → Bool := fun _ ds => decide (uptoBulkAll ds ≤ 1048576)
def OpenSpec.upto (s : _root_.Go.ChangeSpec) : _root_.Go.OpenSpec := { _root_.Go.OpenSpec.ofChange s with cond := some uptoSmall }

/-- 'crosswalkkeep.RrunLonger', WHERE WHAT IT READS IS OF BULK AT MOST 1048576: true; the input reads as it did. -/
def rrunLongerUptoRow : OpenClaim := { program := "ytncmhenfgbcihac", sum := "6eed0024b65828a2a229d80838b0d4c1c5ecff95ab42959b7f53e5c638054d22", func := "crosswalk/crosswalkkeep.RrunLonger", spec := "rrunLonger", unfollowed := true, recurses := true, plainKeys := false, apart := false, narrowed := true }
def RrunLongerUptoSaid : Prop := rrunLongerUptoRow.holds Try.pinned (OpenSpec.upto rrunLongerSpec)

/-- 'crosswalklaw.TostackMakes', WHERE WHAT IT READS IS OF BULK AT MOST 1048576: true; the input reads as it did. -/
def tostackMakesUptoRow : OpenClaim := { program := "ytncmhenfgbcihac", sum := "6eed0024b65828a2a229d80838b0d4c1c5ecff95ab42959b7f53e5c638054d22", func := "crosswalk/crosswalklaw.TostackMakes", spec := "tostackMakes", unfollowed := true, recurses := true, plainKeys := false, apart := false, narrowed := true }
def TostackMakesUptoSaid : Prop := tostackMakesUptoRow.holds Try.pinned (OpenSpec.upto tostackMakesSpec)

end Rows
end Go.Proofs.Ytncmhenfgbcihac
