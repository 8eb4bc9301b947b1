/- The walk through the law RformTells: the program and the reference answer alike. -/
import Derived.Test.YtncmhenfgbcihaaLookY
import Derived.Test.YtncmhenfgbcihaaRefY
namespace Go.Proofs.Ytncmhenfgbcihaa
open Go.RowKit
set_option linter.unusedSimpArgs false
set_option linter.unusedVariables false
namespace RefG
open Num Rd D HierW FormW FormR

theorem lrmayV (f : Fi) (p : Bool) (vf : Value) (w : World) (hp : Rform.rmay f = p) (hf : VFi w w.heap.size vf f) :
    Calls Try.prog 31 #[vf] w fun e w' => e = .returned (.bool p) ∧ Below w.heap.size w w' := by
  subst hp; exact Look.rmay f vf w hf
theorem rrmayV (f : Fi) (p : Bool) (vf : Value) (w : World) (hp : Rform.rmay f = p) (hf : VFi w w.heap.size vf f) :
    Calls Try.prog 32 #[vf] w fun e w' => e = .returned (.bool p) ∧ Below w.heap.size w w' := by
  subst hp; exact RefG.rmay f vf w hf

set_option maxRecDepth 100000 in
set_option maxHeartbeats 2000000 in
theorem rformTells (vf : Value) (f : Fi) (w : World) (hf : VFi w w.heap.size vf f) :
    Calls Try.prog 8 #[vf] w fun e w' => e = .returned (.bool true) ∧ Below w.heap.size w w' := by
  have hf0 := Lib.hid hf
  obtain ⟨vc, vme, rfl, _, _⟩ := hf
  obtain ⟨p, hp⟩ : ∃ p, Hid (Rform.rmay f = p) := ⟨_, rfl⟩
  cases p
  all_goals
    go_enter Try.func8, Try.ntmps8
    go_wp2_with (first
      | (go_at_call 31; refine (lrmayV f _ _ _ hp.out (hf0.out.mono (by repeat' (first | with_reducible exact Below.refl _ _ | with_reducible assumption | exact Nat.le_refl _ | with_reducible refine Go.Proofs.Ytncmhenfgbcihaa.Rd.below_drewN ?_ _ | with_reducible refine Below.alloc ?_ ?_ _ | with_reducible refine Below.setCell ?_ ?_ _ | with_reducible refine Below.drew ?_ | omega | (simp; omega) | (simp; done))) (by simp))).mono ?_; rintro e w1 ⟨rfl, hb1⟩; have hw1 : Below w.heap.size w w1 := Below.trans (by repeat' (first | with_reducible exact Below.refl _ _ | with_reducible assumption | exact Nat.le_refl _ | with_reducible refine Go.Proofs.Ytncmhenfgbcihaa.Rd.below_drewN ?_ _ | with_reducible refine Below.alloc ?_ ?_ _ | with_reducible refine Below.setCell ?_ ?_ _ | with_reducible refine Below.drew ?_ | omega | (simp; omega) | (simp; done))) (hb1.mono (by simp)); have y0 : w1.cell? ⟨w.heap.size, 0, none⟩ = some vc := kept hb1 (by simp) (by go_simp); have y1 : w1.cell? ⟨w.heap.size, 1, none⟩ = some vme := kept hb1 (by simp) (by go_simp))
      | (go_at_call 32; refine (rrmayV f _ _ _ hp.out (hf0.out.mono hw1 hw1.size)).mono ?_; rintro e w2 ⟨rfl, hb2⟩))
    go_ret
    exact ⟨ret_bool (by rfl), hw1.trans (hb2.mono hw1.size)⟩
end RefG
end Go.Proofs.Ytncmhenfgbcihaa
