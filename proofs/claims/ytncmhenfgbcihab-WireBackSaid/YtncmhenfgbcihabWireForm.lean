/- Which form a file is of: wire.form, walked. -/
import Derived.Test.YtncmhenfgbcihabWrL
import Derived.Test.YtncmhenfgbcihabMayS
import Derived.Test.YtncmhenfgbcihabMayL
import Derived.Test.YtncmhenfgbcihabBytesL
namespace Go.Proofs.Ytncmhenfgbcihab
open Go.RowKit
set_option linter.unusedSimpArgs false
set_option linter.unusedVariables false
namespace Wire
open Num Rd D Bytes HierW FormW RefG

theorem callsW {P : Program} {fn : FuncId} {args : Array Value} {w : World} {post : Ending → World → Prop} (R : World → Prop) (hR : R w) (h : ∀ W, R W → Calls P fn args W post) : Calls P fn args w post := h w hR

set_option maxHeartbeats 2000000 in
theorem wform (f : Fi) (vf : Value) (w : World) (hf : VFi w w.heap.size vf f) :
    Calls Try.prog 30 #[vf] w fun e w' => e = .returned (.int .u8 (Bytes.form f)) ∧ Below w.heap.size w w' := by
  have hf0 := Lib.hid hf
  obtain ⟨vc, vme, rfl, _, _⟩ := hf
  obtain ⟨p, hp⟩ : ∃ p, Hid (Form.smay f = p) := ⟨_, rfl⟩
  obtain ⟨q, hq⟩ : ∃ q, Hid (Rform.rmay f = q) := ⟨_, rfl⟩
  have hfin : Hid (Bytes.form f = if p then 1 else if q then 2 else 0) := by show _ = _; rw [← hp.out, ← hq.out]; rfl
  cases p
  · go_enter Try.func30, Try.ntmps30
    go_wp2_with fail
    refine (smayV f false _ _ hp.out (hf0.out.mono (by repeat' (first | with_reducible exact Below.refl _ _ | with_reducible assumption | exact Nat.le_refl _ | with_reducible refine Go.Proofs.Ytncmhenfgbcihab.Rd.below_drewN ?_ _ | with_reducible refine Below.alloc ?_ ?_ _ | with_reducible refine Below.setCell ?_ ?_ _ | with_reducible refine Below.drew ?_ | omega | (simp; omega) | (simp; done))) (by simp))).mono ?_
    rintro e w1 ⟨rfl, hb1⟩
    have hw1 : Below w.heap.size w w1 := Below.trans (by repeat' (first | with_reducible exact Below.refl _ _ | with_reducible assumption | exact Nat.le_refl _ | with_reducible refine Go.Proofs.Ytncmhenfgbcihab.Rd.below_drewN ?_ _ | with_reducible refine Below.alloc ?_ ?_ _ | with_reducible refine Below.setCell ?_ ?_ _ | with_reducible refine Below.drew ?_ | omega | (simp; omega) | (simp; done))) (hb1.mono (by simp))
    have y0 : w1.cell? ⟨w.heap.size, 0, none⟩ = some vc := kept hb1 (by simp) (by go_simp)
    have y1 : w1.cell? ⟨w.heap.size, 1, none⟩ = some vme := kept hb1 (by simp) (by go_simp)
    have HW1 := Lib.hid hw1
    clear hb1 hw1
    go_wp2_with fail
    refine (lrmayV f q _ _ hq.out (hf0.out.mono HW1.out HW1.out.size)).mono ?_
    rintro e w2 ⟨rfl, hb2⟩
    have HW2 := Lib.hid (HW1.out.trans (hb2.mono HW1.out.size))
    clear hb2
    cases q
    all_goals
      go_wp2_with fail
      go_ret
      exact ⟨by rw [hfin.out]; rfl, HW2.out⟩
  · go_enter Try.func30, Try.ntmps30
    go_wp2_with fail
    refine (smayV f true _ _ hp.out (hf0.out.mono (by repeat' (first | with_reducible exact Below.refl _ _ | with_reducible assumption | exact Nat.le_refl _ | with_reducible refine Go.Proofs.Ytncmhenfgbcihab.Rd.below_drewN ?_ _ | with_reducible refine Below.alloc ?_ ?_ _ | with_reducible refine Below.setCell ?_ ?_ _ | with_reducible refine Below.drew ?_ | omega | (simp; omega) | (simp; done))) (by simp))).mono ?_
    rintro e w1 ⟨rfl, hb1⟩
    have hw1 : Below w.heap.size w w1 := Below.trans (by repeat' (first | with_reducible exact Below.refl _ _ | with_reducible assumption | exact Nat.le_refl _ | with_reducible refine Go.Proofs.Ytncmhenfgbcihab.Rd.below_drewN ?_ _ | with_reducible refine Below.alloc ?_ ?_ _ | with_reducible refine Below.setCell ?_ ?_ _ | with_reducible refine Below.drew ?_ | omega | (simp; omega) | (simp; done))) (hb1.mono (by simp))
    have HW1 := Lib.hid hw1
    clear hb1 hw1
    go_wp2_with fail
    go_ret
    exact ⟨by rw [hfin.out]; rfl, HW1.out⟩

theorem form_cases (f : Fi) : Bytes.form f = 0 ∨ Bytes.form f = 1 ∨ Bytes.form f = 2 := by
  unfold Bytes.form; split
  · exact .inr (.inl rfl)
  · split
    · exact .inr (.inr rfl)
    · exact .inl rfl

/-- a slice that owns bytes, of a block that was not there -/
def Own (w : World) (B : Nat) (v : Value) (bs : List UInt8) : Prop := w.ownsRow B 5 1 v bs.length (cells bs)

theorem own_base {w : World} {B g cap : Nat} {bs : List UInt8} (h : w.ownsRow 0 5 1 (.slice (some ⟨g, 0, none⟩) bs.length cap) bs.length (cells bs)) (hg : B ≤ g) {m : Nat} (hm : m = bs.length) : Own w B (.slice (some ⟨g, 0, none⟩) m cap) bs := by
  subst hm
  refine ⟨h.1, ?_⟩
  rcases h.2 with hn | ⟨g', cap', cur, hv, hb', rest⟩
  · exact .inl hn
  · simp at hv
    obtain ⟨rfl, rfl⟩ := hv
    exact .inr ⟨_, _, cur, rfl, hg, rest⟩

end Wire
end Go.Proofs.Ytncmhenfgbcihab
