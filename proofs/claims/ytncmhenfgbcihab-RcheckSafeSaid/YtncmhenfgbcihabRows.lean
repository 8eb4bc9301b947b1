/-
  No cell of these rows narrows 'for every input' (looked for: loops, veiled, ifaces, maps, wideKeys, modest, calm, conditions, laid).
  DERIVED. THE GIVEN ROWS OF THIS SEAT. 8 by the template 'for every input the law returns true; each argument reads behind the call as it read before'; 0 by the template 'total and deterministic' (their statements: YtncmhenfgbcihabTotals.lean).
  GIVEN WITH THE SEED: the statements are not yours to turn. If you find one false, say at which input.
  Laid BY PROGRAM, IN A SANDBOX (cutbox-rows.mjs): the forced cells as the released guide's own fill.sh prints them over the translation d0734c0b3f61a045… (all of the seat's roots in one cut). By AI agents, Wed Nov 11 2026. No macro, syntax, notation, axiom, sorry.
-/
import Derived.Test.YtncmhenfgbcihabChecked
import GoSem.Claim
import GoSem.ClaimJoined
import GoSem.ClaimMapViews
import Derived.JoinedTies
import Derived.KernelRfl
namespace Go.Proofs.Ytncmhenfgbcihab
/- THE CELL 'sum', in the pinned program and in every row, IS THE sha256 OF THE DUMP (.gsa) THAT YtncmhenfgbcihabProg.lean LOADS. Nothing in Lean hashes anything: it is a label: what it is worth is what the hold of that sum in a sandbox is worth. -/
noncomputable def Try.pinned : Pinned := { name := "ytncmhenfgbcihab", sum := "d0734c0b3f61a045644dc76c28d4d9ee2372084024d5ddabcf2201e02a244862", checked := Try.checked }
namespace Rows
def none {H : Type} : Left H := { results := [], args := [] }

/-- 'crosswalkkeep.WireBack': WHATEVER THE INPUT: true; the input reads as it did. -/
def wireBackSpec : ChangeSpec := { name := "wireBack", fn := fun _ => fun
  | [d1, d2] => { results := [.lit (.bool true)], args := [d1, d2] }
  | _ => none }
def wireBackRow : OpenClaim := { program := "ytncmhenfgbcihab", sum := "d0734c0b3f61a045644dc76c28d4d9ee2372084024d5ddabcf2201e02a244862", func := "crosswalk/crosswalkkeep.WireBack", spec := "wireBack", unfollowed := true, recurses := true, plainKeys := false, apart := false }
def WireBackSaid : Prop := wireBackRow.holds Try.pinned (OpenSpec.ofChange wireBackSpec)

/-- ITS FALSE NEIGHBOUR: 'it returns false'. Refute it at one input. -/
def wireBackWrong : ChangeSpec := { name := "wireBack", fn := fun _ => fun
  | [d1, d2] => { results := [.lit (.bool false)], args := [d1, d2] }
  | _ => none }
def WireBackWrongFalsely : Prop := wireBackRow.holds Try.pinned (OpenSpec.ofChange wireBackWrong)

/-- 'crosswalklaw.ScheckTells': WHATEVER THE INPUT: true; the input reads as it did. -/
def scheckTellsSpec : ChangeSpec := { name := "scheckTells", fn := fun _ => fun
  | [d] => { results := [.lit (.bool true)], args := [d] }
  | _ => none }
def scheckTellsRow : OpenClaim := { program := "ytncmhenfgbcihab", sum := "d0734c0b3f61a045644dc76c28d4d9ee2372084024d5ddabcf2201e02a244862", func := "crosswalk/crosswalklaw.ScheckTells", spec := "scheckTells", unfollowed := true, recurses := true, plainKeys := false, apart := false }
def ScheckTellsSaid : Prop := scheckTellsRow.holds Try.pinned (OpenSpec.ofChange scheckTellsSpec)

/-- ITS FALSE NEIGHBOUR: 'it returns false'. Refute it at one input. -/
def scheckTellsWrong : ChangeSpec := { name := "scheckTells", fn := fun _ => fun
  | [d] => { results := [.lit (.bool false)], args := [d] }
  | _ => none }
def ScheckTellsWrongFalsely : Prop := scheckTellsRow.holds Try.pinned (OpenSpec.ofChange scheckTellsWrong)

/-- 'crosswalklaw.ScheckSafe': WHATEVER THE INPUT: true; the input reads as it did. -/
def scheckSafeSpec : ChangeSpec := { name := "scheckSafe", fn := fun _ => fun
  | [d1, d2, d3, d4, d5] => { results := [.lit (.bool true)], args := [d1, d2, d3, d4, d5] }
  | _ => none }
def scheckSafeRow : OpenClaim := { program := "ytncmhenfgbcihab", sum := "d0734c0b3f61a045644dc76c28d4d9ee2372084024d5ddabcf2201e02a244862", func := "crosswalk/crosswalklaw.ScheckSafe", spec := "scheckSafe", unfollowed := true, recurses := true, plainKeys := false, apart := false }
def ScheckSafeSaid : Prop := scheckSafeRow.holds Try.pinned (OpenSpec.ofChange scheckSafeSpec)

/-- ITS FALSE NEIGHBOUR: 'it returns false'. Refute it at one input. -/
def scheckSafeWrong : ChangeSpec := { name := "scheckSafe", fn := fun _ => fun
  | [d1, d2, d3, d4, d5] => { results := [.lit (.bool false)], args := [d1, d2, d3, d4, d5] }
  | _ => none }
def ScheckSafeWrongFalsely : Prop := scheckSafeRow.holds Try.pinned (OpenSpec.ofChange scheckSafeWrong)

/-- 'crosswalklaw.RcheckTells': WHATEVER THE INPUT: true; the input reads as it did. -/
def rcheckTellsSpec : ChangeSpec := { name := "rcheckTells", fn := fun _ => fun
  | [d] => { results := [.lit (.bool true)], args := [d] }
  | _ => none }
def rcheckTellsRow : OpenClaim := { program := "ytncmhenfgbcihab", sum := "d0734c0b3f61a045644dc76c28d4d9ee2372084024d5ddabcf2201e02a244862", func := "crosswalk/crosswalklaw.RcheckTells", spec := "rcheckTells", unfollowed := true, recurses := true, plainKeys := false, apart := false }
def RcheckTellsSaid : Prop := rcheckTellsRow.holds Try.pinned (OpenSpec.ofChange rcheckTellsSpec)

/-- ITS FALSE NEIGHBOUR: 'it returns false'. Refute it at one input. -/
def rcheckTellsWrong : ChangeSpec := { name := "rcheckTells", fn := fun _ => fun
  | [d] => { results := [.lit (.bool false)], args := [d] }
  | _ => none }
def RcheckTellsWrongFalsely : Prop := rcheckTellsRow.holds Try.pinned (OpenSpec.ofChange rcheckTellsWrong)

/-- 'crosswalklaw.RcheckSafe': WHATEVER THE INPUT: true; the input reads as it did. -/
def rcheckSafeSpec : ChangeSpec := { name := "rcheckSafe", fn := fun _ => fun
  | [d1, d2, d3, d4, d5] => { results := [.lit (.bool true)], args := [d1, d2, d3, d4, d5] }
  | _ => none }
def rcheckSafeRow : OpenClaim := { program := "ytncmhenfgbcihab", sum := "d0734c0b3f61a045644dc76c28d4d9ee2372084024d5ddabcf2201e02a244862", func := "crosswalk/crosswalklaw.RcheckSafe", spec := "rcheckSafe", unfollowed := true, recurses := true, plainKeys := false, apart := false }
def RcheckSafeSaid : Prop := rcheckSafeRow.holds Try.pinned (OpenSpec.ofChange rcheckSafeSpec)

/-- ITS FALSE NEIGHBOUR: 'it returns false'. Refute it at one input. -/
def rcheckSafeWrong : ChangeSpec := { name := "rcheckSafe", fn := fun _ => fun
  | [d1, d2, d3, d4, d5] => { results := [.lit (.bool false)], args := [d1, d2, d3, d4, d5] }
  | _ => none }
def RcheckSafeWrongFalsely : Prop := rcheckSafeRow.holds Try.pinned (OpenSpec.ofChange rcheckSafeWrong)

/-- 'crosswalkkeep.SrunLonger': WHATEVER THE INPUT: true; the input reads as it did. -/
def srunLongerSpec : ChangeSpec := { name := "srunLonger", fn := fun _ => fun
  | [d1, d2, d3, d4, d5, d6] => { results := [.lit (.bool true)], args := [d1, d2, d3, d4, d5, d6] }
  | _ => none }
def srunLongerRow : OpenClaim := { program := "ytncmhenfgbcihab", sum := "d0734c0b3f61a045644dc76c28d4d9ee2372084024d5ddabcf2201e02a244862", func := "crosswalk/crosswalkkeep.SrunLonger", spec := "srunLonger", unfollowed := true, recurses := true, plainKeys := false, apart := false }
def SrunLongerSaid : Prop := srunLongerRow.holds Try.pinned (OpenSpec.ofChange srunLongerSpec)

/-- ITS FALSE NEIGHBOUR: 'it returns false'. Refute it at one input. -/
def srunLongerWrong : ChangeSpec := { name := "srunLonger", fn := fun _ => fun
  | [d1, d2, d3, d4, d5, d6] => { results := [.lit (.bool false)], args := [d1, d2, d3, d4, d5, d6] }
  | _ => none }
def SrunLongerWrongFalsely : Prop := srunLongerRow.holds Try.pinned (OpenSpec.ofChange srunLongerWrong)

/-- 'crosswalklaw.TidyMakes': WHATEVER THE INPUT: true; the input reads as it did. -/
def tidyMakesSpec : ChangeSpec := { name := "tidyMakes", fn := fun _ => fun
  | [d] => { results := [.lit (.bool true)], args := [d] }
  | _ => none }
def tidyMakesRow : OpenClaim := { program := "ytncmhenfgbcihab", sum := "d0734c0b3f61a045644dc76c28d4d9ee2372084024d5ddabcf2201e02a244862", func := "crosswalk/crosswalklaw.TidyMakes", spec := "tidyMakes", unfollowed := true, recurses := true, plainKeys := false, apart := false }
def TidyMakesSaid : Prop := tidyMakesRow.holds Try.pinned (OpenSpec.ofChange tidyMakesSpec)

/-- ITS FALSE NEIGHBOUR: 'it returns false'. Refute it at one input. -/
def tidyMakesWrong : ChangeSpec := { name := "tidyMakes", fn := fun _ => fun
  | [d] => { results := [.lit (.bool false)], args := [d] }
  | _ => none }
def TidyMakesWrongFalsely : Prop := tidyMakesRow.holds Try.pinned (OpenSpec.ofChange tidyMakesWrong)

/-- 'crosswalklaw.ToregMakes': WHATEVER THE INPUT: true; the input reads as it did. -/
def toregMakesSpec : ChangeSpec := { name := "toregMakes", fn := fun _ => fun
  | [d] => { results := [.lit (.bool true)], args := [d] }
  | _ => none }
def toregMakesRow : OpenClaim := { program := "ytncmhenfgbcihab", sum := "d0734c0b3f61a045644dc76c28d4d9ee2372084024d5ddabcf2201e02a244862", func := "crosswalk/crosswalklaw.ToregMakes", spec := "toregMakes", unfollowed := true, recurses := true, plainKeys := false, apart := false }
def ToregMakesSaid : Prop := toregMakesRow.holds Try.pinned (OpenSpec.ofChange toregMakesSpec)

/-- ITS FALSE NEIGHBOUR: 'it returns false'. Refute it at one input. -/
def toregMakesWrong : ChangeSpec := { name := "toregMakes", fn := fun _ => fun
  | [d] => { results := [.lit (.bool false)], args := [d] }
  | _ => none }
def ToregMakesWrongFalsely : Prop := toregMakesRow.holds Try.pinned (OpenSpec.ofChange toregMakesWrong)

/- THE SECOND FORM. 'bulk': how many values and letters a reading holds, each counted each time it is reached (what is shared counts as often as it is met; a slice's spare places count too). A statement '..UptoSaid' is the law's where the arguments, and the package variables that the reading takes, are together of bulk at most 1048576: NARROWER than '..Said'. Prove '..Said' where nothing that the law and all that it calls make is longer than what came in: it says more and counts as full. Else prove '..UptoSaid'. A law counts once. -/
mutual
def uptoBulk {H : Type} : DataW H → Nat
  | .lit (.string bytes) => bytes.length + 1
  | .lit _ => 1
  | .nil => 1
  | .ptr d => uptoBulk d + 1
  | .slice elems spare => uptoBulkAll elems + uptoBulkAll spare + 1
  | .agg parts => uptoBulkAll parts + 1
  | .iface _ d => uptoBulk d + 1
  | .map entries => uptoBulkEntries entries + 1
  | .held _ => 1
def uptoBulkAll {H : Type} : List (DataW H) → Nat
  | [] => 0
  | d :: r => uptoBulk d + uptoBulkAll r
def uptoBulkEntries {H : Type} : List (Lit × DataW H) → Nat
  | [] => 0
  | x :: r => uptoBulkEntry x + uptoBulkEntries r
def uptoBulkEntry {H : Type} : Lit × DataW H → Nat
  | (.string bytes, d) => bytes.length + uptoBulk d + 1
  | (_, d) => uptoBulk d + 1
 end
def uptoSmall : (H : Type) → List (DataW H) → Bool := fun _ ds => decide (uptoBulkAll ds ≤ 1048576)
def OpenSpec.upto (s : _root_.Go.ChangeSpec) : _root_.Go.OpenSpec := { _root_.Go.OpenSpec.ofChange s with cond := some uptoSmall }

/-- 'crosswalkkeep.WireBack', WHERE WHAT IT READS IS OF BULK AT MOST 1048576: true; the input reads as it did. -/
def wireBackUptoRow : OpenClaim := { program := "ytncmhenfgbcihab", sum := "d0734c0b3f61a045644dc76c28d4d9ee2372084024d5ddabcf2201e02a244862", func := "crosswalk/crosswalkkeep.WireBack", spec := "wireBack", unfollowed := true, recurses := true, plainKeys := false, apart := false, narrowed := true }
def WireBackUptoSaid : Prop := wireBackUptoRow.holds Try.pinned (OpenSpec.upto wireBackSpec)

/-- 'crosswalklaw.ScheckTells', WHERE WHAT IT READS IS OF BULK AT MOST 1048576: true; the input reads as it did. -/
def scheckTellsUptoRow : OpenClaim := { program := "ytncmhenfgbcihab", sum := "d0734c0b3f61a045644dc76c28d4d9ee2372084024d5ddabcf2201e02a244862", func := "crosswalk/crosswalklaw.ScheckTells", spec := "scheckTells", unfollowed := true, recurses := true, plainKeys := false, apart := false, narrowed := true }
def ScheckTellsUptoSaid : Prop := scheckTellsUptoRow.holds Try.pinned (OpenSpec.upto scheckTellsSpec)

/-- 'crosswalklaw.ScheckSafe', WHERE WHAT IT READS IS OF BULK AT MOST 1048576: true; the input reads as it did. -/
def scheckSafeUptoRow : OpenClaim := { program := "ytncmhenfgbcihab", sum := "d0734c0b3f61a045644dc76c28d4d9ee2372084024d5ddabcf2201e02a244862", func := "crosswalk/crosswalklaw.ScheckSafe", spec := "scheckSafe", unfollowed := true, recurses := true, plainKeys := false, apart := false, narrowed := true }
def ScheckSafeUptoSaid : Prop := scheckSafeUptoRow.holds Try.pinned (OpenSpec.upto scheckSafeSpec)

/-- 'crosswalklaw.RcheckTells', WHERE WHAT IT READS IS OF BULK AT MOST 1048576: true; the input reads as it did. -/
def rcheckTellsUptoRow : OpenClaim := { program := "ytncmhenfgbcihab", sum := "d0734c0b3f61a045644dc76c28d4d9ee2372084024d5ddabcf2201e02a244862", func := "crosswalk/crosswalklaw.RcheckTells", spec := "rcheckTells", unfollowed := true, recurses := true, plainKeys := false, apart := false, narrowed := true }
def RcheckTellsUptoSaid : Prop := rcheckTellsUptoRow.holds Try.pinned (OpenSpec.upto rcheckTellsSpec)

/-- 'crosswalklaw.RcheckSafe', WHERE WHAT IT READS IS OF BULK AT MOST 1048576: true; the input reads as it did. -/
def rcheckSafeUptoRow : OpenClaim := { program := "ytncmhenfgbcihab", sum := "d0734c0b3f61a045644dc76c28d4d9ee2372084024d5ddabcf2201e02a244862", func := "crosswalk/crosswalklaw.RcheckSafe", spec := "rcheckSafe", unfollowed := true, recurses := true, plainKeys := false, apart := false, narrowed := true }
def RcheckSafeUptoSaid : Prop := rcheckSafeUptoRow.holds Try.pinned (OpenSpec.upto rcheckSafeSpec)

/-- 'crosswalkkeep.SrunLonger', WHERE WHAT IT READS IS OF BULK AT MOST 1048576: true; the input reads as it did. -/
def srunLongerUptoRow : OpenClaim := { program := "ytncmhenfgbcihab", sum := "d0734c0b3f61a045644dc76c28d4d9ee2372084024d5ddabcf2201e02a244862", func := "crosswalk/crosswalkkeep.SrunLonger", spec := "srunLonger", unfollowed := true, recurses := true, plainKeys := false, apart := false, narrowed := true }
def SrunLongerUptoSaid : Prop := srunLongerUptoRow.holds Try.pinned (OpenSpec.upto srunLongerSpec)

/-- 'crosswalklaw.TidyMakes', WHERE WHAT IT READS IS OF BULK AT MOST 1048576: true; the input reads as it did. -/
def tidyMakesUptoRow : OpenClaim := { program := "ytncmhenfgbcihab", sum := "d0734c0b3f61a045644dc76c28d4d9ee2372084024d5ddabcf2201e02a244862", func := "crosswalk/crosswalklaw.TidyMakes", spec := "tidyMakes", unfollowed := true, recurses := true, plainKeys := false, apart := false, narrowed := true }
def TidyMakesUptoSaid : Prop := tidyMakesUptoRow.holds Try.pinned (OpenSpec.upto tidyMakesSpec)

/-- 'crosswalklaw.ToregMakes', WHERE WHAT IT READS IS OF BULK AT MOST 1048576: true; the input reads as it did. -/
def toregMakesUptoRow : OpenClaim := { program := "ytncmhenfgbcihab", sum := "d0734c0b3f61a045644dc76c28d4d9ee2372084024d5ddabcf2201e02a244862", func := "crosswalk/crosswalklaw.ToregMakes", spec := "toregMakes", unfollowed := true, recurses := true, plainKeys := false, apart := false, narrowed := true }
def ToregMakesUptoSaid : Prop := toregMakesUptoRow.holds Try.pinned (OpenSpec.upto toregMakesSpec)

end Rows
end Go.Proofs.Ytncmhenfgbcihab
