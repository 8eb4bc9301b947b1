/- The walks through wire.form, wire.Put and the reference's Form. -/
import Derived.Test.YtncmhenfgbcihabWrM
import Derived.Test.YtncmhenfgbcihabWireForm
namespace Go.Proofs.Ytncmhenfgbcihab
open Go.RowKit
set_option linter.unusedSimpArgs false
set_option linter.unusedVariables false
namespace Wire
open Num Rd D Bytes HierW FormW RefG
set_option maxRecDepth 100000 in
set_option maxHeartbeats 4000000 in
theorem put0 (f : Fi) (vf : Value) (w : World) (hf : VFi w w.heap.size vf f) (hz : Bytes.form f = 0) :
    Calls Try.prog 11 #[vf] w fun e w' => e = .returned (.tuple #[.slice none 0 0, .int .i64 2]) ∧ Below w.heap.size w w' := by
  have hf0 := Lib.hid hf
  obtain ⟨vc, vme, rfl, _, _⟩ := hf
  have HZ := Lib.hid hz
  clear hz
  go_enter Try.func11, Try.ntmps11
  go_wp2_with fail
  refine (wform f _ _ (hf0.out.mono (by repeat' (first | with_reducible exact Below.refl _ _ | with_reducible assumption | exact Nat.le_refl _ | with_reducible refine Go.Proofs.Ytncmhenfgbcihab.Rd.below_drewN ?_ _ | with_reducible refine Below.alloc ?_ ?_ _ | with_reducible refine Below.setCell ?_ ?_ _ | with_reducible refine Below.drew ?_ | omega | (simp; omega) | (simp; done))) (by simp))).mono ?_
  rw [HZ.out]
  rintro e w1 ⟨rfl, hb1⟩
  have hw1 : Below w.heap.size w w1 := Below.trans (by repeat' (first | with_reducible exact Below.refl _ _ | with_reducible assumption | exact Nat.le_refl _ | with_reducible refine Go.Proofs.Ytncmhenfgbcihab.Rd.below_drewN ?_ _ | with_reducible refine Below.alloc ?_ ?_ _ | with_reducible refine Below.setCell ?_ ?_ _ | with_reducible refine Below.drew ?_ | omega | (simp; omega) | (simp; done))) (hb1.mono (by simp))
  have HW1 := Lib.hid hw1
  clear hb1 hw1
  go_wp2_with fail
  go_ret2
  exact ⟨rfl, HW1.out⟩

set_option maxRecDepth 100000 in
set_option maxHeartbeats 4000000 in
theorem put1 (f : Fi) (vf : Value) (k : UInt8) (w : World) (hf : VFi w w.heap.size vf f) (hk : Bytes.form f = k.toNat) (hne : Bytes.form f ≠ 0) :
    Calls Try.prog 11 #[vf] w fun e w' => ∃ v, e = .returned (.tuple #[v, .int .i64 0]) ∧ Own w' w.heap.size v (k :: fiB f) ∧ Below w.heap.size w w' := by
  have hf0 := Lib.hid hf
  have hlen := fi_len hne
  have hlc : (lst clB f.classes).length + (lst meB f.methods).length ≤ 2000000 := by simpa [fiB] using hlen
  obtain ⟨vc, vme, rfl, s1, s2⟩ := hf
  have S1 := Lib.hid s1; have S2 := Lib.hid s2
  obtain ⟨ca, ccap, hva, _, _, _⟩ := s1
  subst hva
  obtain ⟨ma, mcap, hva, _, _, _⟩ := s2
  subst hva
  have hk0 : ((k.toNat : Int) == 0) = false := by rw [beq_eq_false_iff_ne, ← hk]; exact hne
  have HK := Lib.hid hk
  clear hk hne hlen
  go_enter Try.func11, Try.ntmps11
  go_wp2_with fail
  refine (wform f _ _ (hf0.out.mono (by repeat' (first | with_reducible exact Below.refl _ _ | with_reducible assumption | exact Nat.le_refl _ | with_reducible refine Go.Proofs.Ytncmhenfgbcihab.Rd.below_drewN ?_ _ | with_reducible refine Below.alloc ?_ ?_ _ | with_reducible refine Below.setCell ?_ ?_ _ | with_reducible refine Below.drew ?_ | omega | (simp; omega) | (simp; done))) (by simp))).mono ?_
  rw [HK.out]
  rintro e w1 ⟨rfl, hb1⟩
  have y0 : w1.cell? ⟨w.heap.size, 0, none⟩ = some (.slice ca f.classes.length ccap) := kept hb1 (by simp) (by go_simp)
  have y1 : w1.cell? ⟨w.heap.size, 1, none⟩ = some (.slice ma f.methods.length mcap) := kept hb1 (by simp) (by go_simp)
  have hws := hb1.size
  have hlt1 : w.heap.size < w1.heap.size := by simp at hws; omega
  have hlt1a : w.heap.size < w1.heap.size + 1 := by omega
  have hlt1b : w.heap.size < w1.heap.size + 1 + 1 := by omega
  clear hws
  have hw1 : Below w.heap.size w w1 := Below.trans (by repeat' (first | with_reducible exact Below.refl _ _ | with_reducible assumption | exact Nat.le_refl _ | with_reducible refine Go.Proofs.Ytncmhenfgbcihab.Rd.below_drewN ?_ _ | with_reducible refine Below.alloc ?_ ?_ _ | with_reducible refine Below.setCell ?_ ?_ _ | with_reducible refine Below.drew ?_ | omega | (simp; omega) | (simp; done))) (hb1.mono (by simp))
  have HW1 := Lib.hid hw1
  clear hb1 hw1
  go_wp2_with fail
  refine callsW (fun W => Hid (Wr W (w1.heap.size + 1) w1.heap.size [k]) ∧ Below w1.heap.size w1 W ∧ w1.heap.size + 2 < W.heap.size ∧ W.cell? ⟨w1.heap.size + 2, 0, none⟩ = some (.pointer (some ⟨w1.heap.size + 1, 0, none⟩))) ?_ ?_
  · refine ⟨?_, (by repeat' (first | with_reducible exact Below.refl _ _ | with_reducible assumption | exact Nat.le_refl _ | with_reducible refine Go.Proofs.Ytncmhenfgbcihab.Rd.below_drewN ?_ _ | with_reducible refine Below.alloc ?_ ?_ _ | with_reducible refine Below.setCell ?_ ?_ _ | with_reducible refine Below.drew ?_ | omega | (simp; omega) | (simp; done))), by simp, by go_simp⟩
    refine ⟨by omega, 1, by go_simp, by go_simp, by simp [cells], .inr ⟨w1.heap.size, 1, #[.int .u8 k.toNat], rfl, by omega, ?_, Nat.le_refl _, by unfold maxLen; omega, rfl, rfl⟩⟩
    rw [heap_alloc_old _ _ (by simp; omega), heap_alloc_old _ _ (by simp), heap_alloc_new]
  rintro W ⟨hWr, hbW, hlt2, hq⟩
  have hbWs := hbW.size
  have y0' := kept hbW hlt1 y0
  have y1' := kept hbW hlt1 y1
  have hwW : Below w.heap.size w W := HW1.out.trans (hbW.mono (by omega))
  have HWW := Lib.hid hwW
  clear y0 y1 hbW hwW
  refine (listCls (w1.heap.size + 1) w1.heap.size (w1.heap.size + 2) _ f.classes [k] W w.heap.size hWr.out (S1.out.mono mCls HWW.out (Nat.le_refl _)) (by omega) (by omega) hq ⟨by omega, by omega⟩ (by simp only [List.length_append, List.length_cons, List.length_nil]; omega)).mono ?_
  rintro e w2 ⟨rfl, hD⟩
  obtain ⟨g2, hW2, hg2, hk2⟩ := hD
  have y1 := hk2.cell y1' (by simp; omega)
  have hq2 := hk2.cell hq (by simp)
  have H2 := Lib.hid hW2; have G2 := Lib.hid hg2; have K2 := Lib.hid hk2
  have hB2 : w.heap.size ≤ g2 := by omega
  have hwW2 : Below w.heap.size w w2 := HWW.out.trans (hk2.below (by omega) (by simp; omega))
  have HWW2 := Lib.hid hwW2
  have HQ := Lib.hid hq
  clear hW2 hg2 hk2 hwW2 y0' y1' hq
  go_wp2_with fail
  refine (listMe (w1.heap.size + 1) g2 _ f.methods _ w2 w.heap.size H2.out (S2.out.mono mMe HWW2.out (Nat.le_refl _)) (by omega) hB2 (by simp only [List.length_append, List.length_cons, List.length_nil]; omega)).mono ?_
  rintro e w3 ⟨rfl, hD⟩
  obtain ⟨g3, hW3, hg3, hk3⟩ := Wd.step K2.out G2.out hD
  have hq3 := hk3.cell HQ.out (by simp)
  have hB3 : w.heap.size ≤ g3 := by omega
  have hwW3 : Below w.heap.size w w3 := HWW.out.trans (hk3.below (by omega) (by simp; omega))
  obtain ⟨hne3, cap3, hc3, hf3, ho3⟩ := hW3
  have HO := Lib.hid ho3
  have HWW3 := Lib.hid hwW3
  clear hD hg3 hk3 hwW3 hq2 y1 ho3 hf3
  go_wp2_with fail
  go_ret2
  refine ⟨_, rfl, ?_, HWW3.out⟩
  have := HO.out
  rw [List.append_assoc] at this
  exact own_base this hB3 (by simp [fiB])
end Wire
end Go.Proofs.Ytncmhenfgbcihab
