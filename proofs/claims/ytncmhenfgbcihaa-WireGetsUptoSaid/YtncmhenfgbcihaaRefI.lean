/- The walk through crosswalkref6.ins, whole: out of its groups. -/
import Derived.Test.YtncmhenfgbcihaaRefIA
import Derived.Test.YtncmhenfgbcihaaRefIB
import Derived.Test.YtncmhenfgbcihaaRefIC
import Derived.Test.YtncmhenfgbcihaaRefID
import Derived.Test.YtncmhenfgbcihaaRefIE
import Derived.Test.YtncmhenfgbcihaaRefIF
import Derived.Test.YtncmhenfgbcihaaRefIN
namespace Go.Proofs.Ytncmhenfgbcihaa
open Go.RowKit
set_option linter.unusedVariables false
namespace RefG
open Num Rd D HierW FormW FormR

theorem ins (f : Fi) (m : Me) (i : Ins) (vf vm vi : Value) (w : World) (hf : VFi w w.heap.size vf f) (hm : VMe w w.heap.size vm m) (hi : VIns w w.heap.size vi i) (hr : 0 ≤ m.regs ∧ m.regs ≤ 90) :
    Calls Try.prog 56 #[vf, vm, vi] w fun e w' => e = .returned (.bool (Rform.ins f m i)) ∧ Below w.heap.size w w' := by
  by_cases hA : i.op = 1 ∨ i.op = 2 ∨ i.op = 3 ∨ i.op = 4 ∨ i.op = 5 ∨ i.op = 6 ∨ i.op = 7 ∨ i.op = 8
  · exact insA f m i vf vm vi w hf hm hi hr hA
  by_cases hB : i.op = 9 ∨ i.op = 10 ∨ i.op = 11 ∨ i.op = 12 ∨ i.op = 13 ∨ i.op = 16 ∨ i.op = 17 ∨ i.op = 19
  · exact insB f m i vf vm vi w hf hm hi hr hB
  by_cases hC : i.op = 20 ∨ i.op = 21 ∨ i.op = 22 ∨ i.op = 23 ∨ i.op = 24
  · exact insC f m i vf vm vi w hf hm hi hr hC
  by_cases hD : i.op = 14
  · exact insD f m i vf vm vi w hf hm hi hr hD
  by_cases hE : i.op = 15
  · exact insE f m i vf vm vi w hf hm hi hr hE
  by_cases hF : i.op = 18
  · exact insF f m i vf vm vi w hf hm hi hr hF
  exact insN f m i vf vm vi w hf hm hi (by omega)
end RefG
end Go.Proofs.Ytncmhenfgbcihaa
