/- The walk through the law WirePuts. -/
import Derived.Test.YtncmhenfgbcihaaRefB
namespace Go.Proofs.Ytncmhenfgbcihaa
open Go.RowKit
set_option linter.unusedSimpArgs false
set_option linter.unusedVariables false
namespace Wire
open Num Rd D Bytes HierW FormW FormR

/-- what is owned, as a string -/
theorem own_conv {w : World} {B : Nat} {v : Value} {bs : List UInt8} (h : Own w B v bs) (hne : bs ≠ []) : (convert 50 9 v).run Try.prog w = .ok (.string (S bs)) w := by
  have hc : ∀ g, v.ownBlock = some g → ∀ j u, (cells bs)[j]? = some u → w.cell? ((⟨g, 0, none⟩ : Addr).add j) = some u := fun g hg => World.ownsRow.cells h hg
  rcases h.2 with ⟨_, h0⟩ | ⟨g, cap, cur, hv, _⟩
  · exact absurd (List.eq_nil_of_length_eq_zero h0) hne
  · subst hv
    refine convS w g cap bs (fun i hi => ?_)
    have := hc g rfl i (.int .u8 bs[i].toNat) (by simp [cells, hi])
    have hadd : (⟨g, 0, none⟩ : Addr).add i = ⟨g, i, none⟩ := by unfold Addr.add; split <;> simp_all
    rw [hadd] at this; exact this
theorem own_below {w w' : World} {B : Nat} {v : Value} {bs : List UInt8} (h : Own w B v bs) (hb : Below w.heap.size w w') : Own w' B v bs := by
  refine ⟨h.1, ?_⟩
  rcases h.2 with hn | ⟨g, cap, cur, hv, hb', hgg, rest⟩
  · exact .inl hn
  · exact .inr ⟨g, cap, cur, hv, hb', by rw [hb.block g (by rcases Nat.lt_or_ge g w.heap.size with h | h; · exact h
                                                            · rw [Array.getElem?_eq_none h] at hgg; cases hgg)]; exact hgg, rest⟩
theorem form_byte (f : Fi) : ∃ k : UInt8, Bytes.form f = k.toNat := by
  rcases form_cases f with h | h | h
  · exact ⟨0, h⟩
  · exact ⟨1, h⟩
  · exact ⟨2, h⟩

set_option maxRecDepth 100000 in
set_option maxHeartbeats 4000000 in
theorem wirePuts (vf : Value) (f : Fi) (w : World) (hf : VFi w w.heap.size vf f) :
    Calls Try.prog 10 #[vf] w fun e w' => e = .returned (.bool true) ∧ Below w.heap.size w w' := by
  have hf0 := Lib.hid hf
  obtain ⟨vc, vme, rfl, _, _⟩ := hf
  by_cases hz : Bytes.form f = 0
  · have hzb : (Bytes.form f == 0) = true := by rw [hz]; rfl
    have HZ := Lib.hid hz
    have HZB := Lib.hid hzb
    clear hz hzb
    go_enter Try.func10, Try.ntmps10
    go_wp2_with fail
    refine (put0 f _ _ (hf0.out.mono (by repeat' (first | with_reducible exact Below.refl _ _ | with_reducible assumption | exact Nat.le_refl _ | with_reducible refine Go.Proofs.Ytncmhenfgbcihaa.Rd.below_drewN ?_ _ | with_reducible refine Below.alloc ?_ ?_ _ | with_reducible refine Below.setCell ?_ ?_ _ | with_reducible refine Below.drew ?_ | omega | (simp; omega) | (simp; done))) (by simp)) HZ.out).mono ?_
    rintro e w1 ⟨rfl, hb1⟩
    have hw1 : Below w.heap.size w w1 := Below.trans (by repeat' (first | with_reducible exact Below.refl _ _ | with_reducible assumption | exact Nat.le_refl _ | with_reducible refine Go.Proofs.Ytncmhenfgbcihaa.Rd.below_drewN ?_ _ | with_reducible refine Below.alloc ?_ ?_ _ | with_reducible refine Below.setCell ?_ ?_ _ | with_reducible refine Below.drew ?_ | omega | (simp; omega) | (simp; done))) (hb1.mono (by simp))
    have y0 : w1.cell? ⟨w.heap.size, 0, none⟩ = some vc := kept hb1 (by simp) (by go_simp)
    have y1 : w1.cell? ⟨w.heap.size, 1, none⟩ = some vme := kept hb1 (by simp) (by go_simp)
    have HW1 := Lib.hid hw1
    clear hb1 hw1
    go_wp2_with fail
    refine (rform12 f _ _ (hf0.out.mono HW1.out HW1.out.size)).mono ?_
    rw [HZ.out]
    rintro e w2 ⟨rfl, hb2⟩
    have HW2 := Lib.hid (HW1.out.trans (hb2.mono HW1.out.size))
    clear hb2
    go_wp2_with fail
    go_ret
    exact ⟨ret_bool (by rfl), HW2.out⟩
  · obtain ⟨k, hk⟩ := form_byte f
    have hkb : ((k.toNat : Int) == 0) = false := by rw [beq_eq_false_iff_ne, ← hk]; exact hz
    have HZ := Lib.hid hz
    have HK := Lib.hid hk
    clear hz hk
    go_enter Try.func10, Try.ntmps10
    go_wp2_with fail
    refine (put1 f _ k _ (hf0.out.mono (by repeat' (first | with_reducible exact Below.refl _ _ | with_reducible assumption | exact Nat.le_refl _ | with_reducible refine Go.Proofs.Ytncmhenfgbcihaa.Rd.below_drewN ?_ _ | with_reducible refine Below.alloc ?_ ?_ _ | with_reducible refine Below.setCell ?_ ?_ _ | with_reducible refine Below.drew ?_ | omega | (simp; omega) | (simp; done))) (by simp)) HK.out HZ.out).mono ?_
    rintro e w1 ⟨v, rfl, ho, hb1⟩
    have hw1 : Below w.heap.size w w1 := Below.trans (by repeat' (first | with_reducible exact Below.refl _ _ | with_reducible assumption | exact Nat.le_refl _ | with_reducible refine Go.Proofs.Ytncmhenfgbcihaa.Rd.below_drewN ?_ _ | with_reducible refine Below.alloc ?_ ?_ _ | with_reducible refine Below.setCell ?_ ?_ _ | with_reducible refine Below.drew ?_ | omega | (simp; omega) | (simp; done))) (hb1.mono (by simp))
    have y0 : w1.cell? ⟨w.heap.size, 0, none⟩ = some vc := kept hb1 (by simp) (by go_simp)
    have y1 : w1.cell? ⟨w.heap.size, 1, none⟩ = some vme := kept hb1 (by simp) (by go_simp)
    have HW1 := Lib.hid hw1
    have HO := Lib.hid ho
    clear hb1 hw1 ho
    go_wp2_with fail
    refine (rform12 f _ _ (hf0.out.mono HW1.out HW1.out.size)).mono ?_
    rw [HK.out]
    rintro e w2 ⟨rfl, hb2⟩
    have z0 := kept hb2 (lt_cell' y0) y0
    have z1 := kept hb2 (lt_cell' y1) y1
    have HW2 := Lib.hid (HW1.out.trans (hb2.mono HW1.out.size))
    have HO2 := Lib.hid (own_below HO.out hb2)
    clear hb2 y0 y1
    go_wp2_with fail
    refine (bytesR f _ k _ (hf0.out.mono HW2.out HW2.out.size) HK.out HZ.out).mono ?_
    rintro e w3 ⟨rfl, hb3⟩
    have HW3 := Lib.hid (HW2.out.trans (hb3.mono HW2.out.size))
    have hcv := own_conv (own_below HO2.out hb3) (by simp)
    clear hb3 z0 z1
    go_wp2_with fail
    go_ret
    exact ⟨ret_bool (by simp), HW3.out⟩
end Wire
end Go.Proofs.Ytncmhenfgbcihaa
