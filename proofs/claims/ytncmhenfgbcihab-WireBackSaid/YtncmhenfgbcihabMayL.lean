/- rform.May, with its answer named. -/
import Derived.Test.YtncmhenfgbcihabLookY
namespace Go.Proofs.Ytncmhenfgbcihab
open Go.RowKit
set_option linter.unusedSimpArgs false
set_option linter.unusedVariables false
namespace RefG
open Num Rd D HierW FormW
theorem lrmayV (f : Fi) (p : Bool) (vf : Value) (w : World) (hp : Rform.rmay f = p) (hf : VFi w w.heap.size vf f) :
    Calls Try.prog 57 #[vf] w fun e w' => e = .returned (.bool p) ∧ Below w.heap.size w w' := by
  subst hp; exact Look.rmay f vf w hf
end RefG
end Go.Proofs.Ytncmhenfgbcihab
