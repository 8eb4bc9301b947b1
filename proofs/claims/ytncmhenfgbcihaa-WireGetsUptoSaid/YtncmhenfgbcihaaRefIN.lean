/- The walk through crosswalkref6.ins where there is no such instruction. -/
import Derived.Test.YtncmhenfgbcihaaRefH
namespace Go.Proofs.Ytncmhenfgbcihaa
open Go.RowKit
set_option linter.unusedSimpArgs false
set_option linter.unusedVariables false
namespace RefG
open Num Rd D HierW FormW FormR

set_option maxRecDepth 100000 in
set_option maxHeartbeats 4000000 in
theorem insN (f : Fi) (m : Me) (i : Ins) (vf vm vi : Value) (w : World) (hf : VFi w w.heap.size vf f) (hm : VMe w w.heap.size vm m) (hi : VIns w w.heap.size vi i) (hop : ¬ (1 ≤ i.op ∧ i.op ≤ 24)) :
    Calls Try.prog 56 #[vf, vm, vi] w fun e w' => e = .returned (.bool (Rform.ins f m i)) ∧ Below w.heap.size w w' := by
  have hk : Rform.kinds i.op = none := by
    unfold Rform.kinds
    repeat rw [if_neg (by omega)]
  have hX := Lib.hid (Rform.ins_none (f := f) (m := m) hk)
  have hK := Lib.hid hk
  clear hop hk
  obtain ⟨vc, vme, rfl, ⟨ca, ccap, rfl, clc, ccc, cel⟩, ⟨ma, mcap, rfl, mlc, mcc, mel⟩⟩ := hf
  obtain ⟨vp, vcd, vh, rfl, _, _, ⟨da, dcap, rfl, dlc, dcc, _⟩, _⟩ := hm
  obtain ⟨va, rfl, _, ⟨aa, acap, rfl, alc, acc, ael⟩⟩ := hi
  obtain ⟨op, a, b, c, n, args⟩ := i
  simp only at *
  clear cel mel ael
  go_enter Try.func56, Try.ntmps56
  go_wp2_with fail
  refine (namedB w _ op ?_).mono ?_
  · exact (by repeat' (first | with_reducible exact Below.refl _ _ | with_reducible assumption | exact Nat.le_refl _ | with_reducible refine Go.Proofs.Ytncmhenfgbcihaa.Rd.below_drewN ?_ _ | with_reducible refine Below.alloc ?_ ?_ _ | with_reducible refine Below.setCell ?_ ?_ _ | with_reducible refine Below.drew ?_ | omega | (simp; omega) | (simp; done)))
  rintro e w1 ⟨hw1, hb1, ⟨hk, rfl⟩ | ⟨k0, k1, k2, kn, hk, rfl, hkn, e0, e1, e2⟩⟩
  · clear hk hb1
    go_wp2_with fail
    go_ret
    exact ⟨ret_bool hX.out.symm, hw1⟩
  · exfalso
    rw [hK.out] at hk
    cases hk
end RefG
end Go.Proofs.Ytncmhenfgbcihaa
