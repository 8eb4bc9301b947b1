/- sform.May, with its answer named. -/
import Derived.Test.YtncmhenfgbcihabFormY
namespace Go.Proofs.Ytncmhenfgbcihab
open Go.RowKit
set_option linter.unusedSimpArgs false
set_option linter.unusedVariables false
namespace FormW
open Num Rd D HierW
theorem smayV (f : Fi) (p : Bool) (vf : Value) (w : World) (hp : Form.smay f = p) (hf : VFi w w.heap.size vf f) :
    Calls Try.prog 46 #[vf] w fun e w' => e = .returned (.bool p) ∧ Below w.heap.size w w' := by
  subst hp; exact smay f vf w hf
end FormW
end Go.Proofs.Ytncmhenfgbcihab
