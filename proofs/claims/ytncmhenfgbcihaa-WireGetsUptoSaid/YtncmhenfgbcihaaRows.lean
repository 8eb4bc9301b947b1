/-
  No cell of these rows narrows 'for every input' (looked for: loops, veiled, ifaces, maps, wideKeys, modest, calm, conditions, laid).
  DERIVED. THE GIVEN ROWS OF THIS SEAT. 10 by the template 'for every input the law returns true; each argument reads behind the call as it read before'; 0 by the template 'total and deterministic' (their statements: YtncmhenfgbcihaaTotals.lean).
  GIVEN WITH THE SEED: the statements are not yours to turn. If you find one false, say at which input.
  Laid BY PROGRAM, IN A SANDBOX (cutbox-rows.mjs): the forced cells as the released guide's own fill.sh prints them over the translation 1d2f5a1f87b23762… (all of the seat's roots in one cut). By AI agents, Wed Nov 11 2026. No macro, syntax, notation, axiom, sorry.
-/
import Derived.Test.YtncmhenfgbcihaaChecked
import GoSem.Claim
import GoSem.ClaimJoined
import GoSem.ClaimMapViews
import Derived.JoinedTies
import Derived.KernelRfl
namespace Go.Proofs.Ytncmhenfgbcihaa
/- THE CELL 'sum', in the pinned program and in every row, IS THE sha256 OF THE DUMP (.gsa) THAT YtncmhenfgbcihaaProg.lean LOADS. Nothing in Lean hashes anything: it is a label: what it is worth is what the hold of that sum in a sandbox is worth. -/
noncomputable def Try.pinned : Pinned := { name := "ytncmhenfgbcihaa", sum := "1d2f5a1f87b2376247e9396019ebf5a387f46ad9d853628ea43045575e725dec", checked := Try.checked }
namespace Rows
def none {H : Type} : Left H := { results := [], args := [] }

/-- 'crosswalkkeep.NumDivides': WHATEVER THE INPUT: true; the input reads as it did. -/
def numDividesSpec : ChangeSpec := { name := "numDivides", fn := fun _ => fun
  | [d1, d2] => { results := [.lit (.bool true)], args := [d1, d2] }
  | _ => none }
def numDividesRow : OpenClaim := { program := "ytncmhenfgbcihaa", sum := "1d2f5a1f87b2376247e9396019ebf5a387f46ad9d853628ea43045575e725dec", func := "crosswalk/crosswalkkeep.NumDivides", spec := "numDivides", apart := false }
def NumDividesSaid : Prop := numDividesRow.holds Try.pinned (OpenSpec.ofChange numDividesSpec)

/-- ITS FALSE NEIGHBOUR: 'it returns false'. Refute it at one input. -/
def numDividesWrong : ChangeSpec := { name := "numDivides", fn := fun _ => fun
  | [d1, d2] => { results := [.lit (.bool false)], args := [d1, d2] }
  | _ => none }
def NumDividesWrongFalsely : Prop := numDividesRow.holds Try.pinned (OpenSpec.ofChange numDividesWrong)

/-- 'crosswalklaw.HierTells': WHATEVER THE INPUT: true; the input reads as it did. -/
def hierTellsSpec : ChangeSpec := { name := "hierTells", fn := fun _ => fun
  | [d1, d2, d3] => { results := [.lit (.bool true)], args := [d1, d2, d3] }
  | _ => none }
def hierTellsRow : OpenClaim := { program := "ytncmhenfgbcihaa", sum := "1d2f5a1f87b2376247e9396019ebf5a387f46ad9d853628ea43045575e725dec", func := "crosswalk/crosswalklaw.HierTells", spec := "hierTells", unfollowed := true, recurses := true, apart := false }
def HierTellsSaid : Prop := hierTellsRow.holds Try.pinned (OpenSpec.ofChange hierTellsSpec)

/-- ITS FALSE NEIGHBOUR: 'it returns false'. Refute it at one input. -/
def hierTellsWrong : ChangeSpec := { name := "hierTells", fn := fun _ => fun
  | [d1, d2, d3] => { results := [.lit (.bool false)], args := [d1, d2, d3] }
  | _ => none }
def HierTellsWrongFalsely : Prop := hierTellsRow.holds Try.pinned (OpenSpec.ofChange hierTellsWrong)

/-- 'crosswalkkeep.HierJoins': WHATEVER THE INPUT: true; the input reads as it did. -/
def hierJoinsSpec : ChangeSpec := { name := "hierJoins", fn := fun _ => fun
  | [d1, d2, d3, d4] => { results := [.lit (.bool true)], args := [d1, d2, d3, d4] }
  | _ => none }
def hierJoinsRow : OpenClaim := { program := "ytncmhenfgbcihaa", sum := "1d2f5a1f87b2376247e9396019ebf5a387f46ad9d853628ea43045575e725dec", func := "crosswalk/crosswalkkeep.HierJoins", spec := "hierJoins", unfollowed := true, recurses := true, apart := false }
def HierJoinsSaid : Prop := hierJoinsRow.holds Try.pinned (OpenSpec.ofChange hierJoinsSpec)

/-- ITS FALSE NEIGHBOUR: 'it returns false'. Refute it at one input. -/
def hierJoinsWrong : ChangeSpec := { name := "hierJoins", fn := fun _ => fun
  | [d1, d2, d3, d4] => { results := [.lit (.bool false)], args := [d1, d2, d3, d4] }
  | _ => none }
def HierJoinsWrongFalsely : Prop := hierJoinsRow.holds Try.pinned (OpenSpec.ofChange hierJoinsWrong)

/-- 'crosswalklaw.NumTells': WHATEVER THE INPUT: true; the input reads as it did. -/
def numTellsSpec : ChangeSpec := { name := "numTells", fn := fun _ => fun
  | [d1, d2, d3] => { results := [.lit (.bool true)], args := [d1, d2, d3] }
  | _ => none }
def numTellsRow : OpenClaim := { program := "ytncmhenfgbcihaa", sum := "1d2f5a1f87b2376247e9396019ebf5a387f46ad9d853628ea43045575e725dec", func := "crosswalk/crosswalklaw.NumTells", spec := "numTells", unfollowed := true, recurses := true, apart := false }
def NumTellsSaid : Prop := numTellsRow.holds Try.pinned (OpenSpec.ofChange numTellsSpec)

/-- ITS FALSE NEIGHBOUR: 'it returns false'. Refute it at one input. -/
def numTellsWrong : ChangeSpec := { name := "numTells", fn := fun _ => fun
  | [d1, d2, d3] => { results := [.lit (.bool false)], args := [d1, d2, d3] }
  | _ => none }
def NumTellsWrongFalsely : Prop := numTellsRow.holds Try.pinned (OpenSpec.ofChange numTellsWrong)

/-- 'crosswalklaw.SformTells': WHATEVER THE INPUT: true; the input reads as it did. -/
def sformTellsSpec : ChangeSpec := { name := "sformTells", fn := fun _ => fun
  | [d] => { results := [.lit (.bool true)], args := [d] }
  | _ => none }
def sformTellsRow : OpenClaim := { program := "ytncmhenfgbcihaa", sum := "1d2f5a1f87b2376247e9396019ebf5a387f46ad9d853628ea43045575e725dec", func := "crosswalk/crosswalklaw.SformTells", spec := "sformTells", apart := false }
def SformTellsSaid : Prop := sformTellsRow.holds Try.pinned (OpenSpec.ofChange sformTellsSpec)

/-- ITS FALSE NEIGHBOUR: 'it returns false'. Refute it at one input. -/
def sformTellsWrong : ChangeSpec := { name := "sformTells", fn := fun _ => fun
  | [d] => { results := [.lit (.bool false)], args := [d] }
  | _ => none }
def SformTellsWrongFalsely : Prop := sformTellsRow.holds Try.pinned (OpenSpec.ofChange sformTellsWrong)

/-- 'crosswalklaw.RformTells': WHATEVER THE INPUT: true; the input reads as it did. -/
def rformTellsSpec : ChangeSpec := { name := "rformTells", fn := fun _ => fun
  | [d] => { results := [.lit (.bool true)], args := [d] }
  | _ => none }
def rformTellsRow : OpenClaim := { program := "ytncmhenfgbcihaa", sum := "1d2f5a1f87b2376247e9396019ebf5a387f46ad9d853628ea43045575e725dec", func := "crosswalk/crosswalklaw.RformTells", spec := "rformTells", apart := false }
def RformTellsSaid : Prop := rformTellsRow.holds Try.pinned (OpenSpec.ofChange rformTellsSpec)

/-- ITS FALSE NEIGHBOUR: 'it returns false'. Refute it at one input. -/
def rformTellsWrong : ChangeSpec := { name := "rformTells", fn := fun _ => fun
  | [d] => { results := [.lit (.bool false)], args := [d] }
  | _ => none }
def RformTellsWrongFalsely : Prop := rformTellsRow.holds Try.pinned (OpenSpec.ofChange rformTellsWrong)

/-- 'crosswalkkeep.FormsApart': WHATEVER THE INPUT: true; the input reads as it did. -/
def formsApartSpec : ChangeSpec := { name := "formsApart", fn := fun _ => fun
  | [d] => { results := [.lit (.bool true)], args := [d] }
  | _ => none }
def formsApartRow : OpenClaim := { program := "ytncmhenfgbcihaa", sum := "1d2f5a1f87b2376247e9396019ebf5a387f46ad9d853628ea43045575e725dec", func := "crosswalk/crosswalkkeep.FormsApart", spec := "formsApart", apart := false }
def FormsApartSaid : Prop := formsApartRow.holds Try.pinned (OpenSpec.ofChange formsApartSpec)

/-- ITS FALSE NEIGHBOUR: 'it returns false'. Refute it at one input. -/
def formsApartWrong : ChangeSpec := { name := "formsApart", fn := fun _ => fun
  | [d] => { results := [.lit (.bool false)], args := [d] }
  | _ => none }
def FormsApartWrongFalsely : Prop := formsApartRow.holds Try.pinned (OpenSpec.ofChange formsApartWrong)

/-- 'crosswalklaw.WirePuts': WHATEVER THE INPUT: true; the input reads as it did. -/
def wirePutsSpec : ChangeSpec := { name := "wirePuts", fn := fun _ => fun
  | [d] => { results := [.lit (.bool true)], args := [d] }
  | _ => none }
def wirePutsRow : OpenClaim := { program := "ytncmhenfgbcihaa", sum := "1d2f5a1f87b2376247e9396019ebf5a387f46ad9d853628ea43045575e725dec", func := "crosswalk/crosswalklaw.WirePuts", spec := "wirePuts", unfollowed := true, recurses := true, apart := false }
def WirePutsSaid : Prop := wirePutsRow.holds Try.pinned (OpenSpec.ofChange wirePutsSpec)

/-- ITS FALSE NEIGHBOUR: 'it returns false'. Refute it at one input. -/
def wirePutsWrong : ChangeSpec := { name := "wirePuts", fn := fun _ => fun
  | [d] => { results := [.lit (.bool false)], args := [d] }
  | _ => none }
def WirePutsWrongFalsely : Prop := wirePutsRow.holds Try.pinned (OpenSpec.ofChange wirePutsWrong)

/-- 'crosswalkkeep.WireOne': WHATEVER THE INPUT: true; the input reads as it did. -/
def wireOneSpec : ChangeSpec := { name := "wireOne", fn := fun _ => fun
  | [d1, d2] => { results := [.lit (.bool true)], args := [d1, d2] }
  | _ => none }
def wireOneRow : OpenClaim := { program := "ytncmhenfgbcihaa", sum := "1d2f5a1f87b2376247e9396019ebf5a387f46ad9d853628ea43045575e725dec", func := "crosswalk/crosswalkkeep.WireOne", spec := "wireOne", unfollowed := true, recurses := true, apart := false }
def WireOneSaid : Prop := wireOneRow.holds Try.pinned (OpenSpec.ofChange wireOneSpec)

/-- ITS FALSE NEIGHBOUR: 'it returns false'. Refute it at one input. -/
def wireOneWrong : ChangeSpec := { name := "wireOne", fn := fun _ => fun
  | [d1, d2] => { results := [.lit (.bool false)], args := [d1, d2] }
  | _ => none }
def WireOneWrongFalsely : Prop := wireOneRow.holds Try.pinned (OpenSpec.ofChange wireOneWrong)

/-- 'crosswalklaw.WireGets': WHATEVER THE INPUT: true; the input reads as it did. -/
def wireGetsSpec : ChangeSpec := { name := "wireGets", fn := fun _ => fun
  | [d] => { results := [.lit (.bool true)], args := [d] }
  | _ => none }
def wireGetsRow : OpenClaim := { program := "ytncmhenfgbcihaa", sum := "1d2f5a1f87b2376247e9396019ebf5a387f46ad9d853628ea43045575e725dec", func := "crosswalk/crosswalklaw.WireGets", spec := "wireGets", unfollowed := true, recurses := true, apart := false }
def WireGetsSaid : Prop := wireGetsRow.holds Try.pinned (OpenSpec.ofChange wireGetsSpec)

/-- ITS FALSE NEIGHBOUR: 'it returns false'. Refute it at one input. -/
def wireGetsWrong : ChangeSpec := { name := "wireGets", fn := fun _ => fun
  | [d] => { results := [.lit (.bool false)], args := [d] }
  | _ => none }
def WireGetsWrongFalsely : Prop := wireGetsRow.holds Try.pinned (OpenSpec.ofChange wireGetsWrong)

/- THE SECOND FORM. 'bulk': how many values and letters a reading holds, each counted each time it is reached (what is shared counts as often as it is met; a slice's spare places count too). A statement '..UptoSaid' is the law's where the arguments, and the package variables that the reading takes, are together of bulk at most 1048576: NARROWER than '..Said'. Prove '..Said' where nothing that the law and all that it calls make is longer than what came in: it says more and counts as full. Else prove '..UptoSaid'. A law counts once. -/
mutual
def uptoBulk {H : Type} : DataW H → Nat
  | .lit (.string bytes) => bytes.length + 1
  | .lit _ => 1
  | .nil => 1
  | .ptr d => uptoBulk d + 1
  | .slice elems spare => uptoBulkAll elems + uptoBulkAll spare + 1
  | .agg parts => uptoBulkAll parts + 1
  | .iface _ d => uptoBulk d + 1
  | .map entries => uptoBulkEntries entries + 1
  | .held _ => 1
def uptoBulkAll {H : Type} : List (DataW H) → Nat
  | [] => 0
  | d :: r => uptoBulk d + uptoBulkAll r
def uptoBulkEntries {H : Type} : List (Lit × DataW H) → Nat
  | [] => 0
  | x :: r => uptoBulkEntry x + uptoBulkEntries r
def uptoBulkEntry {H : Type} : Lit × DataW H → Nat
  | (.string bytes, d) => bytes.length + uptoBulk d + 1
  | (_, d) => uptoBulk d + 1
 end
def uptoSmall : (H : Type) → List (DataW H) → Bool := fun _ ds => decide (uptoBulkAll ds ≤ 1048576)
def OpenSpec.upto (s : _root_.Go.ChangeSpec) : _root_.Go.OpenSpec := { _root_.Go.OpenSpec.ofChange s with cond := some uptoSmall }

/-- 'crosswalkkeep.NumDivides', WHERE WHAT IT READS IS OF BULK AT MOST 1048576: true; the input reads as it did. -/
def numDividesUptoRow : OpenClaim := { program := "ytncmhenfgbcihaa", sum := "1d2f5a1f87b2376247e9396019ebf5a387f46ad9d853628ea43045575e725dec", func := "crosswalk/crosswalkkeep.NumDivides", spec := "numDivides", apart := false, narrowed := true }
def NumDividesUptoSaid : Prop := numDividesUptoRow.holds Try.pinned (OpenSpec.upto numDividesSpec)

/-- 'crosswalklaw.HierTells', WHERE WHAT IT READS IS OF BULK AT MOST 1048576: true; the input reads as it did. -/
def hierTellsUptoRow : OpenClaim := { program := "ytncmhenfgbcihaa", sum := "1d2f5a1f87b2376247e9396019ebf5a387f46ad9d853628ea43045575e725dec", func := "crosswalk/crosswalklaw.HierTells", spec := "hierTells", unfollowed := true, recurses := true, apart := false, narrowed := true }
def HierTellsUptoSaid : Prop := hierTellsUptoRow.holds Try.pinned (OpenSpec.upto hierTellsSpec)

/-- 'crosswalkkeep.HierJoins', WHERE WHAT IT READS IS OF BULK AT MOST 1048576: true; the input reads as it did. -/
def hierJoinsUptoRow : OpenClaim := { program := "ytncmhenfgbcihaa", sum := "1d2f5a1f87b2376247e9396019ebf5a387f46ad9d853628ea43045575e725dec", func := "crosswalk/crosswalkkeep.HierJoins", spec := "hierJoins", unfollowed := true, recurses := true, apart := false, narrowed := true }
def HierJoinsUptoSaid : Prop := hierJoinsUptoRow.holds Try.pinned (OpenSpec.upto hierJoinsSpec)

/-- 'crosswalklaw.NumTells', WHERE WHAT IT READS IS OF BULK AT MOST 1048576: true; the input reads as it did. -/
def numTellsUptoRow : OpenClaim := { program := "ytncmhenfgbcihaa", sum := "1d2f5a1f87b2376247e9396019ebf5a387f46ad9d853628ea43045575e725dec", func := "crosswalk/crosswalklaw.NumTells", spec := "numTells", unfollowed := true, recurses := true, apart := false, narrowed := true }
def NumTellsUptoSaid : Prop := numTellsUptoRow.holds Try.pinned (OpenSpec.upto numTellsSpec)

/-- 'crosswalklaw.SformTells', WHERE WHAT IT READS IS OF BULK AT MOST 1048576: true; the input reads as it did. -/
def sformTellsUptoRow : OpenClaim := { program := "ytncmhenfgbcihaa", sum := "1d2f5a1f87b2376247e9396019ebf5a387f46ad9d853628ea43045575e725dec", func := "crosswalk/crosswalklaw.SformTells", spec := "sformTells", apart := false, narrowed := true }
def SformTellsUptoSaid : Prop := sformTellsUptoRow.holds Try.pinned (OpenSpec.upto sformTellsSpec)

/-- 'crosswalklaw.RformTells', WHERE WHAT IT READS IS OF BULK AT MOST 1048576: true; the input reads as it did. -/
def rformTellsUptoRow : OpenClaim := { program := "ytncmhenfgbcihaa", sum := "1d2f5a1f87b2376247e9396019ebf5a387f46ad9d853628ea43045575e725dec", func := "crosswalk/crosswalklaw.RformTells", spec := "rformTells", apart := false, narrowed := true }
def RformTellsUptoSaid : Prop := rformTellsUptoRow.holds Try.pinned (OpenSpec.upto rformTellsSpec)

/-- 'crosswalkkeep.FormsApart', WHERE WHAT IT READS IS OF BULK AT MOST 1048576: true; the input reads as it did. -/
def formsApartUptoRow : OpenClaim := { program := "ytncmhenfgbcihaa", sum := "1d2f5a1f87b2376247e9396019ebf5a387f46ad9d853628ea43045575e725dec", func := "crosswalk/crosswalkkeep.FormsApart", spec := "formsApart", apart := false, narrowed := true }
def FormsApartUptoSaid : Prop := formsApartUptoRow.holds Try.pinned (OpenSpec.upto formsApartSpec)

/-- 'crosswalklaw.WirePuts', WHERE WHAT IT READS IS OF BULK AT MOST 1048576: true; the input reads as it did. -/
def wirePutsUptoRow : OpenClaim := { program := "ytncmhenfgbcihaa", sum := "1d2f5a1f87b2376247e9396019ebf5a387f46ad9d853628ea43045575e725dec", func := "crosswalk/crosswalklaw.WirePuts", spec := "wirePuts", unfollowed := true, recurses := true, apart := false, narrowed := true }
def WirePutsUptoSaid : Prop := wirePutsUptoRow.holds Try.pinned (OpenSpec.upto wirePutsSpec)

/-- 'crosswalkkeep.WireOne', WHERE WHAT IT READS IS OF BULK AT MOST 1048576: true; the input reads as it did. -/
def wireOneUptoRow : OpenClaim := { program := "ytncmhenfgbcihaa", sum := "1d2f5a1f87b2376247e9396019ebf5a387f46ad9d853628ea43045575e725dec", func := "crosswalk/crosswalkkeep.WireOne", spec := "wireOne", unfollowed := true, recurses := true, apart := false, narrowed := true }
def WireOneUptoSaid : Prop := wireOneUptoRow.holds Try.pinned (OpenSpec.upto wireOneSpec)

/-- 'crosswalklaw.WireGets', WHERE WHAT IT READS IS OF BULK AT MOST 1048576: true; the input reads as it did. -/
def wireGetsUptoRow : OpenClaim := { program := "ytncmhenfgbcihaa", sum := "1d2f5a1f87b2376247e9396019ebf5a387f46ad9d853628ea43045575e725dec", func := "crosswalk/crosswalklaw.WireGets", spec := "wireGets", unfollowed := true, recurses := true, apart := false, narrowed := true }
def WireGetsUptoSaid : Prop := wireGetsUptoRow.holds Try.pinned (OpenSpec.upto wireGetsSpec)

end Rows
end Go.Proofs.Ytncmhenfgbcihaa
