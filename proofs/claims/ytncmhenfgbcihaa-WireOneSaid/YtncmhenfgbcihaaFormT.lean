/- The walk through the law SformTells: the program and the reference answer alike. -/
import Derived.Test.YtncmhenfgbcihaaFormY
import Derived.Test.YtncmhenfgbcihaaFormRY
namespace Go.Proofs.Ytncmhenfgbcihaa
open Go.RowKit
set_option linter.unusedSimpArgs false
set_option linter.unusedVariables false
namespace FormW
open Num Rd D HierW

theorem smayV (f : Fi) (p : Bool) (vf : Value) (w : World) (hp : Form.smay f = p) (hf : VFi w w.heap.size vf f) :
    Calls Try.prog 29 #[vf] w fun e w' => e = .returned (.bool p) ∧ Below w.heap.size w w' := by
  subst hp; exact smay f vf w hf
theorem rsmayV (f : Fi) (p : Bool) (vf : Value) (w : World) (hp : Form.smay f = p) (hf : VFi w w.heap.size vf f) :
    Calls Try.prog 30 #[vf] w fun e w' => e = .returned (.bool p) ∧ Below w.heap.size w w' := by
  subst hp; exact FormR.smay f vf w hf

set_option maxRecDepth 100000 in
set_option maxHeartbeats 2000000 in
theorem sformTells (vf : Value) (f : Fi) (w : World) (hf : VFi w w.heap.size vf f) :
    Calls Try.prog 7 #[vf] w fun e w' => e = .returned (.bool true) ∧ Below w.heap.size w w' := by
  have hf0 := Lib.hid hf
  obtain ⟨vc, vme, rfl, _, _⟩ := hf
  obtain ⟨p, hp⟩ : ∃ p, Hid (Form.smay f = p) := ⟨_, rfl⟩
  cases p
  all_goals
    go_enter Try.func7, Try.ntmps7
    go_wp2_with (first
      | (go_at_call 29; refine (smayV f _ _ _ hp.out (hf0.out.mono (by repeat' (first | with_reducible exact Below.refl _ _ | with_reducible assumption | exact Nat.le_refl _ | with_reducible refine Go.Proofs.Ytncmhenfgbcihaa.Rd.below_drewN ?_ _ | with_reducible refine Below.alloc ?_ ?_ _ | with_reducible refine Below.setCell ?_ ?_ _ | with_reducible refine Below.drew ?_ | omega | (simp; omega) | (simp; done))) (by simp))).mono ?_; rintro e w1 ⟨rfl, hb1⟩; have hw1 : Below w.heap.size w w1 := Below.trans (by repeat' (first | with_reducible exact Below.refl _ _ | with_reducible assumption | exact Nat.le_refl _ | with_reducible refine Go.Proofs.Ytncmhenfgbcihaa.Rd.below_drewN ?_ _ | with_reducible refine Below.alloc ?_ ?_ _ | with_reducible refine Below.setCell ?_ ?_ _ | with_reducible refine Below.drew ?_ | omega | (simp; omega) | (simp; done))) (hb1.mono (by simp)); have y0 : w1.cell? ⟨w.heap.size, 0, none⟩ = some vc := kept hb1 (by simp) (by go_simp); have y1 : w1.cell? ⟨w.heap.size, 1, none⟩ = some vme := kept hb1 (by simp) (by go_simp))
      | (go_at_call 30; refine (rsmayV f _ _ _ hp.out (hf0.out.mono hw1 hw1.size)).mono ?_; rintro e w2 ⟨rfl, hb2⟩))
    go_ret
    exact ⟨ret_bool (by rfl), hw1.trans (hb2.mono hw1.size)⟩
end FormW
end Go.Proofs.Ytncmhenfgbcihaa
