/- The walk through the law WireBack: what was put is read as it was. -/
import Derived.Test.YtncmhenfgbcihabWireOwn
import Derived.Test.YtncmhenfgbcihabGet
import Derived.Test.YtncmhenfgbcihabSame
namespace Go.Proofs.Ytncmhenfgbcihab
open Go.RowKit
set_option linter.unusedSimpArgs false
set_option linter.unusedVariables false
namespace Wire
open Num Rd D Bytes HierW FormW

/-- what is owned, as bytes to read -/
theorem own_sl {w : World} {B : Nat} {v : Value} {bs : List UInt8} (h : Own w B v bs) (hlen : bs.length ≤ 4000000) : Sl 1 EByte w w.heap.size v bs := by
  have hc : ∀ g, v.ownBlock = some g → ∀ j u, (cells bs)[j]? = some u → w.cell? ((⟨g, 0, none⟩ : Addr).add j) = some u := fun g hg => World.ownsRow.cells h hg
  have hl := World.ownsRow.lt h
  rcases h.2 with ⟨rfl, h0⟩ | ⟨g, cap, cur, hv, _, _, hcap, hmax, _⟩
  · exact ⟨none, 0, by rw [h0], by omega, by omega, fun i hi => by omega⟩
  · subst hv
    refine ⟨_, cap, rfl, hcap, by have : maxLen = 9223372036854775807 := rfl; omega, fun i hi => ⟨g, 0, rfl, (hl g rfl).2, ?_⟩⟩
    have := hc g rfl i (.int .u8 bs[i].toNat) (by simp [cells, hi])
    have hadd : (⟨g, 0, none⟩ : Addr).add i = ⟨g, i, none⟩ := by unfold Addr.add; split <;> simp_all
    rw [hadd] at this
    unfold EByte
    simpa using this
theorem sl_take {w : World} {B : Nat} {g cap : Nat} {bs : List UInt8} (h : Sl 1 EByte w B (.slice (some ⟨g, 0, none⟩) bs.length cap) bs) {n : Nat} (hn : n ≤ bs.length) : Sl 1 EByte w B (.slice (some ⟨g, 0, none⟩) n cap) (bs.take n) := by
  obtain ⟨a, c, he, h1, h2, h3⟩ := h
  simp only [Value.slice.injEq] at he
  obtain ⟨rfl, _, rfl⟩ := he
  refine ⟨_, cap, by rw [List.length_take, Nat.min_eq_left hn], by rw [List.length_take]; omega, h2, fun i hi => ?_⟩
  have hi' : i < bs.length := by rw [List.length_take] at hi; omega
  obtain ⟨b, o, e, hb, hc⟩ := h3 i hi'
  exact ⟨b, o, e, hb, by rw [List.getElem_take]; exact hc⟩
/-- what Get answers of what was read -/
def getR2 (k : UInt8) (r : Option (Fi × List UInt8)) : Option Fi := match r with
  | some (f, []) => if (k.toNat : Int) = 0 ∨ Bytes.form f ≠ k.toNat then none else some f
  | _ => none
theorem getS_cons (k : UInt8) (rest : List UInt8) : getS (k :: rest) = getR2 k (fiP rest) := by unfold getS getR2; rfl
theorem getR2_some {f : Fi} {k : UInt8} (hk : Bytes.form f = k.toNat) (hz : Bytes.form f ≠ 0) : getR2 k (some (f, [])) = some f := by
  unfold getR2
  have hn : ¬ ((k.toNat : Int) = 0 ∨ Bytes.form f ≠ k.toNat) := by
    rintro (e | e)
    · exact hz (hk.trans e)
    · exact e hk
  exact if_neg hn
theorem getS_put {f : Fi} {k : UInt8} (hf : FiOk f) (hk : Bytes.form f = k.toNat) (hz : Bytes.form f ≠ 0) : getS (k :: fiB f) = some f := by
  have h := fi_reads f [] hf
  rw [List.append_nil] at h
  rw [getS_cons, h]
  exact getR2_some hk hz
theorem getS_cut {f : Fi} {k : UInt8} (hf : FiOk f) {n : Nat} (hn : n < (k :: fiB f).length) : getS ((k :: fiB f).take n) = none := by
  cases n with
  | zero => rfl
  | succ n =>
    have hc := no_cut hf (n := n) (by simpa using hn)
    rw [List.take_succ_cons, getS_cons]
    generalize fiP ((fiB f).take n) = r at hc ⊢
    rcases r with _ | ⟨g, r⟩
    · rfl
    · cases r with
      | nil => exact absurd rfl (hc g)
      | cons a b => rfl

set_option maxRecDepth 100000 in
set_option maxHeartbeats 8000000 in
theorem wireBack (va : Value) (fa : Fi) (cn : Nat) (w : World) (hf : VFi w w.heap.size va fa) (hcut : cn < 65536) :
    Calls Try.prog 3 #[va, .int .u16 cn] w fun e w' => e = .returned (.bool true) ∧ Below w.heap.size w w' := by
  have hA := Lib.hid hf
  have hOk := Lib.hid (fi_ok hf)
  obtain ⟨vc, vm, rfl, _, _⟩ := hf
  by_cases hz : Bytes.form fa = 0
  · have HZ := Lib.hid hz
    clear hz
    go_enter Try.func3, Try.ntmps3
    go_wp2_with fail
    refine (put0 fa _ _ (hA.out.mono (by repeat' (first | with_reducible exact Below.refl _ _ | with_reducible assumption | exact Nat.le_refl _ | with_reducible refine Go.Proofs.Ytncmhenfgbcihab.Rd.below_drewN ?_ _ | with_reducible refine Below.alloc ?_ ?_ _ | with_reducible refine Below.setCell ?_ ?_ _ | with_reducible refine Below.drew ?_ | omega | (simp; omega) | (simp; done))) (by simp <;> omega)) HZ.out).mono ?_
    rintro e w1 ⟨rfl, hb1⟩
    have hw1 : Below w.heap.size w w1 := Below.trans (by repeat' (first | with_reducible exact Below.refl _ _ | with_reducible assumption | exact Nat.le_refl _ | with_reducible refine Go.Proofs.Ytncmhenfgbcihab.Rd.below_drewN ?_ _ | with_reducible refine Below.alloc ?_ ?_ _ | with_reducible refine Below.setCell ?_ ?_ _ | with_reducible refine Below.drew ?_ | omega | (simp; omega) | (simp; done))) (hb1.mono (by simp <;> omega))
    have HW1 := Lib.hid hw1
    clear hb1 hw1
    go_wp2_with fail
    go_ret
    exact ⟨ret_bool rfl, HW1.out⟩
  · obtain ⟨k, hk⟩ := form_byte fa
    have HZ := Lib.hid hz
    have HK := Lib.hid hk
    have HL := Lib.hid (fi_len hz)
    clear hz hk
    go_enter Try.func3, Try.ntmps3
    go_wp2_with fail
    refine (put1 fa _ k _ (hA.out.mono (by repeat' (first | with_reducible exact Below.refl _ _ | with_reducible assumption | exact Nat.le_refl _ | with_reducible refine Go.Proofs.Ytncmhenfgbcihab.Rd.below_drewN ?_ _ | with_reducible refine Below.alloc ?_ ?_ _ | with_reducible refine Below.setCell ?_ ?_ _ | with_reducible refine Below.drew ?_ | omega | (simp; omega) | (simp; done))) (by simp <;> omega)) HK.out HZ.out).mono ?_
    rintro e w1 ⟨v1, rfl, ho1, hb1⟩
    have hw1 : Below w.heap.size w w1 := Below.trans (by repeat' (first | with_reducible exact Below.refl _ _ | with_reducible assumption | exact Nat.le_refl _ | with_reducible refine Go.Proofs.Ytncmhenfgbcihab.Rd.below_drewN ?_ _ | with_reducible refine Below.alloc ?_ ?_ _ | with_reducible refine Below.setCell ?_ ?_ _ | with_reducible refine Below.drew ?_ | omega | (simp; omega) | (simp; done))) (hb1.mono (by simp <;> omega))
    have HW1 := Lib.hid hw1
    have HX1 := Lib.hid hb1
    have HO1 := Lib.hid ho1
    have hs1 := hw1.size
    have hlb : (k :: fiB fa).length ≤ 4000000 := by have := HL.out; simp; omega
    have hsl := own_sl ho1 hlb
    obtain ⟨g1, n1, cap1, rfl, hn1⟩ := own_form ho1 (by simp)
    have hn1' : n1 = (k :: fiB fa).length := by obtain ⟨_, _, he, _⟩ := hsl; simp only [Value.slice.injEq] at he; exact he.2.1
    have HSL := Lib.hid hsl
    have HLB := Lib.hid hlb
    have HN1 := Lib.hid hn1'
    clear hb1 hw1 ho1 hsl hlb hn1'
    go_wp2_with fail
    refine (get (k :: fiB fa) _ _ (HSL.out.mono mByte (by have h1 := Below.refl w1.heap.size w1; exact (by repeat' (first | with_reducible exact Below.refl _ _ | with_reducible assumption | exact Nat.le_refl _ | with_reducible refine Go.Proofs.Ytncmhenfgbcihab.Rd.below_drewN ?_ _ | with_reducible refine Below.alloc ?_ ?_ _ | with_reducible refine Below.setCell ?_ ?_ _ | with_reducible refine Below.drew ?_ | omega | (simp; omega) | (simp; done)))) (by simp <;> omega)) HLB.out).mono ?_
    rw [getS_put hOk.out HK.out HZ.out]
    rintro e w2 ⟨⟨v2, rfl, hv2⟩, hb2⟩
    simp only [Option.isSome_some, if_true, Option.getD_some] at hv2 ⊢
    have hs2 := hb2.size
    have hw2 : Below w.heap.size w w2 := Below.trans (by have h1 := HW1.out; exact (by repeat' (first | with_reducible exact Below.refl _ _ | with_reducible assumption | exact Nat.le_refl _ | with_reducible refine Go.Proofs.Ytncmhenfgbcihab.Rd.below_drewN ?_ _ | with_reducible refine Below.alloc ?_ ?_ _ | with_reducible refine Below.setCell ?_ ?_ _ | with_reducible refine Below.drew ?_ | omega | (simp; omega) | (simp; done)))) (hb2.mono (by first | omega | (simp <;> omega)))
    have kk : ∀ (b o : Nat) (u : Value), World.cell? _ ⟨b, o, none⟩ = some u → w2.cell? ⟨b, o, none⟩ = some u := fun b o u hc => kept hb2 (lt_cell' hc) hc
    have y0 : w1.cell? ⟨w.heap.size, 0, none⟩ = some vc := kept HX1.out (by simp) (by go_simp)
    have y1 : w1.cell? ⟨w.heap.size, 1, none⟩ = some vm := kept HX1.out (by simp) (by go_simp)
    have z0 := kk w.heap.size 0 vc (by go_simp)
    have z1 := kk w.heap.size 1 vm (by go_simp)
    have HV2 := Lib.hid hv2
    have HO2 := Lib.hid (own_below (own_below HO1.out (by have h1 := Below.refl w1.heap.size w1; exact (by repeat' (first | with_reducible exact Below.refl _ _ | with_reducible assumption | exact Nat.le_refl _ | with_reducible refine Go.Proofs.Ytncmhenfgbcihab.Rd.below_drewN ?_ _ | with_reducible refine Below.alloc ?_ ?_ _ | with_reducible refine Below.setCell ?_ ?_ _ | with_reducible refine Below.drew ?_ | omega | (simp; omega) | (simp; done))))) hb2)
    have HW2 := Lib.hid hw2
    obtain ⟨vc2, vm2, rfl, ⟨ca2, ccap2, rfl, _⟩, ⟨ma2, mcap2, rfl, _⟩⟩ := hv2
    clear kk hb2 hw2 y0 y1
    go_wp2_with fail
    refine (put1 fa _ k _ (HV2.out.mono (by have h1 := Below.refl w2.heap.size w2; exact (by repeat' (first | with_reducible exact Below.refl _ _ | with_reducible assumption | exact Nat.le_refl _ | with_reducible refine Go.Proofs.Ytncmhenfgbcihab.Rd.below_drewN ?_ _ | with_reducible refine Below.alloc ?_ ?_ _ | with_reducible refine Below.setCell ?_ ?_ _ | with_reducible refine Below.drew ?_ | omega | (simp; omega) | (simp; done)))) (by simp <;> omega)) HK.out HZ.out).mono ?_
    rintro e w3 ⟨v3, rfl, ho3, hb3⟩
    have hs3 : w2.heap.size < w3.heap.size := by have := hb3.size; simp at this; omega
    have kk : ∀ (b o : Nat) (u : Value), World.cell? _ ⟨b, o, none⟩ = some u → w3.cell? ⟨b, o, none⟩ = some u := fun b o u hc => kept hb3 (lt_cell' hc) hc
    have hlt02 := lt_cell' z0
    have x0 := kk w.heap.size 0 vc (by go_simp)
    have x1 := kk w.heap.size 1 vm (by go_simp)
    have x2 := kk w2.heap.size 0 (.slice ca2 fa.classes.length ccap2) (by go_simp)
    have x3 := kk w2.heap.size 1 (.slice ma2 fa.methods.length mcap2) (by go_simp)
    have HW3 := Lib.hid (show Below w.heap.size w w3 from Below.trans (by have h1 := HW2.out; exact (by repeat' (first | with_reducible exact Below.refl _ _ | with_reducible assumption | exact Nat.le_refl _ | with_reducible refine Go.Proofs.Ytncmhenfgbcihab.Rd.below_drewN ?_ _ | with_reducible refine Below.alloc ?_ ?_ _ | with_reducible refine Below.setCell ?_ ?_ _ | with_reducible refine Below.drew ?_ | omega | (simp; omega) | (simp; done)))) (hb3.mono (by simp <;> omega)))
    have HO3 := Lib.hid (own_below (own_below HO2.out (by have h1 := Below.refl w2.heap.size w2; exact (by repeat' (first | with_reducible exact Below.refl _ _ | with_reducible assumption | exact Nat.le_refl _ | with_reducible refine Go.Proofs.Ytncmhenfgbcihab.Rd.below_drewN ?_ _ | with_reducible refine Below.alloc ?_ ?_ _ | with_reducible refine Below.setCell ?_ ?_ _ | with_reducible refine Below.drew ?_ | omega | (simp; omega) | (simp; done))))) hb3)
    have HV3 := Lib.hid (show VFi w3 w3.heap.size (.agg #[.slice ca2 fa.classes.length ccap2, .slice ma2 fa.methods.length mcap2]) fa from HV2.out.mono (Below.trans (by have h1 := Below.refl w2.heap.size w2; exact (by repeat' (first | with_reducible exact Below.refl _ _ | with_reducible assumption | exact Nat.le_refl _ | with_reducible refine Go.Proofs.Ytncmhenfgbcihab.Rd.below_drewN ?_ _ | with_reducible refine Below.alloc ?_ ?_ _ | with_reducible refine Below.setCell ?_ ?_ _ | with_reducible refine Below.drew ?_ | omega | (simp; omega) | (simp; done)))) (hb3.mono (by simp <;> omega))) (by omega))
    have HQ3 := Lib.hid ho3
    obtain ⟨g3, n3, cap3, rfl, hn3⟩ := own_form ho3 (by simp)
    clear kk hb3 ho3 z0 z1
    by_cases hc : cn < n1
    · have hcI : (cn : Int) < n1 := by omega
      have hcap : cn ≤ cap1 := by
        obtain ⟨_, _, he, h1, _⟩ := HSL.out
        simp only [Value.slice.injEq] at he
        omega
      have hsl4 : Sl 1 EByte w3 w3.heap.size (.slice (some ⟨g1, 0, none⟩) cn cap1) ((k :: fiB fa).take cn) := by
        have h1 := own_sl HO3.out HLB.out
        have h2 := HN1.out
        subst h2
        exact sl_take h1 (by omega)
      have HS4 := Lib.hid hsl4
      have hcut2 := Lib.hid (getS_cut hOk.out (k := k) (n := cn) (by have := HN1.out; omega))
      clear hsl4
      go_wp2_with fail
      refine (get ((k :: fiB fa).take cn) _ _ HS4.out (by have := HLB.out; rw [List.length_take]; omega)).mono ?_
      rw [hcut2.out]
      rintro e w4 ⟨⟨v4, rfl, hv4⟩, hb4⟩
      replace x0 := kept hb4 (lt_cell' x0) x0
      replace x1 := kept hb4 (lt_cell' x1) x1
      replace x2 := kept hb4 (lt_cell' x2) x2
      replace x3 := kept hb4 (lt_cell' x3) x3
      replace HO3 := Lib.hid (own_below HO3.out hb4)
      replace HQ3 := Lib.hid (own_below HQ3.out hb4)
      replace HV3 := Lib.hid (HV3.out.mono hb4 hb4.size)
      replace HW3 := Lib.hid (HW3.out.trans (hb4.mono HW3.out.size))
      simp only [Option.getD_none, List.length_nil] at hv4
      obtain ⟨vc4, vm4, rfl, ⟨ca4, ccap4, rfl, _⟩, ⟨ma4, mcap4, rfl, _⟩⟩ := hv4
      simp only [List.length_nil]
      have hlt4 := lt_cell' x0
      have hlt5 := lt_cell' x2
      clear hb4
      have hcv1 := own_conv (own_below HO3.out (w' := w4.alloc (.cells #[.slice ca4 0 ccap4, .slice ma4 0 mcap4] 25)) (by repeat' (first | with_reducible exact Below.refl _ _ | with_reducible assumption | exact Nat.le_refl _ | with_reducible refine Go.Proofs.Ytncmhenfgbcihab.Rd.below_drewN ?_ _ | with_reducible refine Below.alloc ?_ ?_ _ | with_reducible refine Below.setCell ?_ ?_ _ | with_reducible refine Below.drew ?_ | omega | (simp; omega) | (simp; done)))) (by simp)
      have hcv2 := own_conv (own_below HQ3.out (w' := w4.alloc (.cells #[.slice ca4 0 ccap4, .slice ma4 0 mcap4] 25)) (by repeat' (first | with_reducible exact Below.refl _ _ | with_reducible assumption | exact Nat.le_refl _ | with_reducible refine Go.Proofs.Ytncmhenfgbcihab.Rd.below_drewN ?_ _ | with_reducible refine Below.alloc ?_ ?_ _ | with_reducible refine Below.setCell ?_ ?_ _ | with_reducible refine Below.drew ?_ | omega | (simp; omega) | (simp; done)))) (by simp)
      go_wp2_with fail
      refine (sameS _ _ fa _ ?hsA ?hsB).mono ?_
      case hsA => exact hA.out.mono (by have h1 := HW3.out; exact (by repeat' (first | with_reducible exact Below.refl _ _ | with_reducible assumption | exact Nat.le_refl _ | with_reducible refine Go.Proofs.Ytncmhenfgbcihab.Rd.below_drewN ?_ _ | with_reducible refine Below.alloc ?_ ?_ _ | with_reducible refine Below.setCell ?_ ?_ _ | with_reducible refine Below.drew ?_ | omega | (simp; omega) | (simp; done)))) (by have := HW3.out.size; first | omega | (simp <;> omega))
      case hsB => exact HV3.out.mono (by have h1 := Below.refl w4.heap.size w4; exact (by repeat' (first | with_reducible exact Below.refl _ _ | with_reducible assumption | exact Nat.le_refl _ | with_reducible refine Go.Proofs.Ytncmhenfgbcihab.Rd.below_drewN ?_ _ | with_reducible refine Below.alloc ?_ ?_ _ | with_reducible refine Below.setCell ?_ ?_ _ | with_reducible refine Below.drew ?_ | omega | (simp; omega) | (simp; done)))) (by first | omega | (simp <;> omega))
      rintro e w5 ⟨rfl, hb5⟩
      have HW5 := Lib.hid (show Below w.heap.size w w5 from Below.trans (by have h1 := HW3.out; exact (by repeat' (first | with_reducible exact Below.refl _ _ | with_reducible assumption | exact Nat.le_refl _ | with_reducible refine Go.Proofs.Ytncmhenfgbcihab.Rd.below_drewN ?_ _ | with_reducible refine Below.alloc ?_ ?_ _ | with_reducible refine Below.setCell ?_ ?_ _ | with_reducible refine Below.drew ?_ | omega | (simp; omega) | (simp; done)))) (hb5.mono (by have := HW3.out.size; first | omega | (simp <;> omega))))
      clear hb5
      go_wp2_with fail
      go_ret
      exact ⟨ret_bool rfl, HW5.out⟩
    · have hcI : ¬ (cn : Int) < n1 := by omega
      have hcv1 := own_conv HO3.out (by simp)
      have hcv2 := own_conv HQ3.out (by simp)
      go_wp2_with fail
      refine (sameS _ _ fa _ (hA.out.mono HW3.out HW3.out.size) HV3.out).mono ?_
      rintro e w5 ⟨rfl, hb5⟩
      have HW5 := Lib.hid (HW3.out.trans (hb5.mono HW3.out.size))
      clear hb5
      go_wp2_with fail
      go_ret
      exact ⟨ret_bool rfl, HW5.out⟩
end Wire
end Go.Proofs.Ytncmhenfgbcihab
