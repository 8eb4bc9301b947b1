/- The walk through the law WireOne. -/
import Derived.Test.YtncmhenfgbcihaaWireT
import Derived.Test.YtncmhenfgbcihaaSame
namespace Go.Proofs.Ytncmhenfgbcihaa
open Go.RowKit
set_option linter.unusedSimpArgs false
set_option linter.unusedVariables false
namespace Wire
open Num Rd D Bytes HierW FormW FormR

/-! ### what a world holds is within its bounds -/
theorem sl_ok {α : Type} {size : Nat} {E : World → Nat → Nat → Nat → α → Prop} {p : α → Prop} (hE : ∀ w B b o x, E w B b o x → p x) {w : World} {B : Nat} {v : Value} {l : List α} (h : Sl size E w B v l) : LOk p l := by
  obtain ⟨a, cap, _, h1, h2, h3⟩ := h
  refine ⟨by omega, fun x hx => ?_⟩
  obtain ⟨i, hi, rfl⟩ := List.getElem_of_mem hx
  obtain ⟨b, o, _, _, he⟩ := h3 i hi
  exact hE _ _ _ _ _ he
theorem ty_ok (w : World) (B b o : Nat) (x : Ty) (h : ETy w B b o x) : TyOk x := ⟨h.2.2.1, h.2.2.2⟩
theorem int_ok' (w : World) (B b o : Nat) (x : Int) (h : EInt w B b o x) : Ok x := h.2
theorem hd_ok (w : World) (B b o : Nat) (x : Hd) (h : EHd w B b o x) : HdOk x := h.2.2.2.2
theorem cl_ok (w : World) (B b o : Nat) (x : Cls) (h : ECls w B b o x) : ClOk x := by
  obtain ⟨_, h1, v, _, h2⟩ := h; exact ⟨h1, sl_ok ty_ok h2⟩
theorem ins_ok (w : World) (B b o : Nat) (x : Ins) (h : EIns w B b o x) : InsOk x := by
  obtain ⟨_, _, _, _, _, h1, v, _, h2⟩ := h; exact ⟨h1, sl_ok int_ok' h2⟩
theorem me_ok (w : World) (B b o : Nat) (x : Me) (h : EMe w B b o x) : MeOk x := by
  obtain ⟨_, _, _, _, _, _, _, _, _, _, _, ⟨h1, h2, h3, h4, h5⟩, s1, s2, s3⟩ := h
  exact ⟨sl_ok ty_ok s1, ⟨h1, h2⟩, ⟨h3, h4, h5⟩, sl_ok ins_ok s2, sl_ok hd_ok s3⟩
theorem fi_ok {w : World} {B : Nat} {v : Value} {f : Fi} (h : VFi w B v f) : FiOk f := by
  obtain ⟨_, _, _, s1, s2⟩ := h; exact ⟨sl_ok cl_ok s1, sl_ok me_ok s2⟩

theorem S_toList (bs : List UInt8) : (S bs).toList = bs := by rw [ByteArray.toList_eq]; simp [S]
theorem own_form {w : World} {B : Nat} {v : Value} {bs : List UInt8} (h : Own w B v bs) (hne : bs ≠ []) : ∃ g n cap, v = .slice (some ⟨g, 0, none⟩) n cap ∧ (0 : Int) < n := by
  rcases h.2 with ⟨_, h0⟩ | ⟨g, cap, cur, hv, _⟩
  · exact absurd (List.eq_nil_of_length_eq_zero h0) hne
  · exact ⟨g, _, cap, hv, by have := List.length_pos_iff.2 hne; omega⟩

set_option maxRecDepth 100000 in
set_option maxHeartbeats 8000000 in
theorem wireOne (va : Value) (fa : Fi) (vb : Value) (fb : Fi) (w : World) (hf : VFi w w.heap.size va fa) (hg : VFi w w.heap.size vb fb) :
    Calls Try.prog 11 #[va, vb] w fun e w' => e = .returned (.bool true) ∧ Below w.heap.size w w' := by
  have hA := Lib.hid hf
  have hB := Lib.hid hg
  have hinj : Hid (fiB fa = fiB fb → fa = fb) := fun h => fiB_inj (fi_ok hf) (fi_ok hg) h
  obtain ⟨vc, vm, rfl, _, _⟩ := hf
  obtain ⟨uc, um, rfl, _, _⟩ := hg
  by_cases hz : Bytes.form fa = 0
  · have HZ := Lib.hid hz
    clear hz
    go_enter Try.func11, Try.ntmps11
    go_wp2_with fail
    refine (put0 fa _ _ (hA.out.mono (by repeat' (first | with_reducible exact Below.refl _ _ | with_reducible assumption | exact Nat.le_refl _ | with_reducible refine Go.Proofs.Ytncmhenfgbcihaa.Rd.below_drewN ?_ _ | with_reducible refine Below.alloc ?_ ?_ _ | with_reducible refine Below.setCell ?_ ?_ _ | with_reducible refine Below.drew ?_ | omega | (simp; omega) | (simp; done))) (by simp <;> omega)) HZ.out).mono ?_
    rintro e w1 ⟨rfl, hb1⟩
    have hw1 : Below w.heap.size w w1 := Below.trans (by repeat' (first | with_reducible exact Below.refl _ _ | with_reducible assumption | exact Nat.le_refl _ | with_reducible refine Go.Proofs.Ytncmhenfgbcihaa.Rd.below_drewN ?_ _ | with_reducible refine Below.alloc ?_ ?_ _ | with_reducible refine Below.setCell ?_ ?_ _ | with_reducible refine Below.drew ?_ | omega | (simp; omega) | (simp; done))) (hb1.mono (by simp <;> omega))
    have q0 : w1.cell? ⟨w.heap.size + 1, 0, none⟩ = some uc := kept hb1 (by simp <;> omega) (by go_simp)
    have q1 : w1.cell? ⟨w.heap.size + 1, 1, none⟩ = some um := kept hb1 (by simp <;> omega) (by go_simp)
    have HW1 := Lib.hid hw1
    clear hb1 hw1
    by_cases hz2 : Bytes.form fb = 0
    · have HZ2 := Lib.hid hz2
      clear hz2
      go_wp2_with fail
      refine (put0 fb _ _ (hB.out.mono HW1.out HW1.out.size) HZ2.out).mono ?_
      rintro e w2 ⟨rfl, hb2⟩
      have HW2 := Lib.hid (HW1.out.trans (hb2.mono HW1.out.size))
      clear hb2
      go_wp2_with fail
      go_ret
      exact ⟨ret_bool rfl, HW2.out⟩
    · obtain ⟨k2, hk2⟩ := form_byte fb
      have HZ2 := Lib.hid hz2
      have HK2 := Lib.hid hk2
      clear hz2 hk2
      go_wp2_with fail
      refine (put1 fb _ k2 _ (hB.out.mono HW1.out HW1.out.size) HK2.out HZ2.out).mono ?_
      rintro e w2 ⟨v2, rfl, ho2, hb2⟩
      have HW2 := Lib.hid (HW1.out.trans (hb2.mono HW1.out.size))
      clear hb2 ho2
      go_wp2_with fail
      go_ret
      exact ⟨ret_bool rfl, HW2.out⟩
  · obtain ⟨k, hk⟩ := form_byte fa
    have HZ := Lib.hid hz
    have HK := Lib.hid hk
    clear hz hk
    go_enter Try.func11, Try.ntmps11
    go_wp2_with fail
    refine (put1 fa _ k _ (hA.out.mono (by repeat' (first | with_reducible exact Below.refl _ _ | with_reducible assumption | exact Nat.le_refl _ | with_reducible refine Go.Proofs.Ytncmhenfgbcihaa.Rd.below_drewN ?_ _ | with_reducible refine Below.alloc ?_ ?_ _ | with_reducible refine Below.setCell ?_ ?_ _ | with_reducible refine Below.drew ?_ | omega | (simp; omega) | (simp; done))) (by simp <;> omega)) HK.out HZ.out).mono ?_
    rintro e w1 ⟨v1, rfl, ho1, hb1⟩
    have hw1 : Below w.heap.size w w1 := Below.trans (by repeat' (first | with_reducible exact Below.refl _ _ | with_reducible assumption | exact Nat.le_refl _ | with_reducible refine Go.Proofs.Ytncmhenfgbcihaa.Rd.below_drewN ?_ _ | with_reducible refine Below.alloc ?_ ?_ _ | with_reducible refine Below.setCell ?_ ?_ _ | with_reducible refine Below.drew ?_ | omega | (simp; omega) | (simp; done))) (hb1.mono (by simp <;> omega))
    have y0 : w1.cell? ⟨w.heap.size, 0, none⟩ = some vc := kept hb1 (by simp <;> omega) (by go_simp)
    have y1 : w1.cell? ⟨w.heap.size, 1, none⟩ = some vm := kept hb1 (by simp <;> omega) (by go_simp)
    have q0 : w1.cell? ⟨w.heap.size + 1, 0, none⟩ = some uc := kept hb1 (by simp <;> omega) (by go_simp)
    have q1 : w1.cell? ⟨w.heap.size + 1, 1, none⟩ = some um := kept hb1 (by simp <;> omega) (by go_simp)
    have HW1 := Lib.hid hw1
    have HO1 := Lib.hid ho1
    clear hb1 hw1
    obtain ⟨g1, n1, cap1, rfl, hn1⟩ := own_form ho1 (by simp)
    clear ho1
    by_cases hz2 : Bytes.form fb = 0
    · have HZ2 := Lib.hid hz2
      clear hz2
      go_wp2_with fail
      refine (put0 fb _ _ (hB.out.mono HW1.out HW1.out.size) HZ2.out).mono ?_
      rintro e w2 ⟨rfl, hb2⟩
      have HW2 := Lib.hid (HW1.out.trans (hb2.mono HW1.out.size))
      clear hb2
      go_wp2_with fail
      go_ret
      exact ⟨ret_bool rfl, HW2.out⟩
    · obtain ⟨k2, hk2⟩ := form_byte fb
      have HZ2 := Lib.hid hz2
      have HK2 := Lib.hid hk2
      clear hz2 hk2
      go_wp2_with fail
      refine (put1 fb _ k2 _ (hB.out.mono HW1.out HW1.out.size) HK2.out HZ2.out).mono ?_
      rintro e w2 ⟨v2, rfl, ho2, hb2⟩
      have HW2 := Lib.hid (HW1.out.trans (hb2.mono HW1.out.size))
      have hcv1 := own_conv (own_below HO1.out hb2) (by simp)
      have hcv2 := own_conv ho2 (by simp)
      have y0' := kept hb2 (lt_cell' y0) y0
      have y1' := kept hb2 (lt_cell' y1) y1
      have q0' := kept hb2 (lt_cell' q0) q0
      have q1' := kept hb2 (lt_cell' q1) q1
      obtain ⟨g2, n2, cap2, rfl, hn2⟩ := own_form ho2 (by simp)
      clear hb2 ho2 y0 y1 q0 q1
      by_cases he : (k :: fiB fa) = (k2 :: fiB fb)
      · have hfab := hinj.out (List.cons.inj he).2
        have hk12 := (List.cons.inj he).1
        subst hfab
        subst hk12
        clear he
        go_wp2_with fail
        refine (sameS _ _ fa _ (hA.out.mono HW2.out HW2.out.size) (hB.out.mono HW2.out HW2.out.size)).mono ?_
        rintro e w3 ⟨rfl, hb3⟩
        have HW3 := Lib.hid (HW2.out.trans (hb3.mono HW2.out.size))
        clear hb3
        go_wp2_with fail
        go_ret
        exact ⟨ret_bool rfl, HW3.out⟩
      · have hd2 : ((S (k :: fiB fa)).toList == (S (k2 :: fiB fb)).toList) = false := by rw [S_toList, S_toList, beq_eq_false_iff_ne]; exact he
        have HE := Lib.hid he
        clear he
        go_wp2_with fail
        go_ret
        exact ⟨ret_bool rfl, HW2.out⟩
end Wire
end Go.Proofs.Ytncmhenfgbcihaa
