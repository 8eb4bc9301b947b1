/- The walk through the law FormsApart: no file may be on a stack and on registers, both. -/
import Derived.Test.YtncmhenfgbcihaaRformT
import Derived.Test.YtncmhenfgbcihaaFormT
import Derived.Test.YtncmhenfgbcihaaBytesL
namespace Go.Proofs.Ytncmhenfgbcihaa
open Go.RowKit
set_option linter.unusedSimpArgs false
set_option linter.unusedVariables false
namespace Apart
open Num Rd D HierW FormW FormR RefG

def oneF : Fi := ⟨[⟨-1, []⟩, ⟨0, []⟩, ⟨0, []⟩, ⟨0, []⟩], [⟨[], ⟨0, 0⟩, 0, 0, 0, [⟨20, 0, 0, 0, 0, []⟩], []⟩]⟩
def twoF : Fi := ⟨[⟨-1, []⟩, ⟨0, []⟩, ⟨0, []⟩, ⟨0, []⟩], [⟨[], ⟨0, 0⟩, 0, 0, 1, [⟨20, 0, 0, 0, 0, []⟩], []⟩]⟩
theorem one_may : Form.smay oneF = true := by decide +kernel
theorem two_may : Rform.rmay twoF = true := by decide +kernel

theorem nilS {α : Type} (s : Nat) (E : World → Nat → Nat → Nat → α → Prop) (w : World) (B : Nat) : Sl s E w B (.slice none 0 0) [] := ⟨none, 0, rfl, Nat.le_refl _, by omega, fun i h => absurd h (by simp)⟩

theorem slOne {α : Type} {s : Nat} {E : World → Nat → Nat → Nat → α → Prop} {w : World} {B c : Nat} {x : α} (hc : c < B) (h : E w B c 0 x) : Sl s E w B (.slice (some ⟨c, 0, none⟩) 1 1) [x] := by
  refine ⟨_, 1, rfl, Nat.le_refl _, by omega, fun i hi => ?_⟩
  have hi0 : i = 0 := by simp at hi; omega
  subst hi0
  refine ⟨c, 0, rfl, hc, ?_⟩
  simpa using h

theorem callsW {P : Program} {fn : FuncId} {args : Array Value} {w : World} {post : Ending → World → Prop} (R : World → Prop) (hR : R w) (h : ∀ W, R W → Calls P fn args W post) : Calls P fn args w post := h w hR
def Cells (w : World) (c i m : Nat) (regs : Int) : Prop :=
  (w.cell? ⟨c, 0, none⟩ = some (.int .i64 (-1)) ∧ w.cell? ⟨c, 1, none⟩ = some (.slice none 0 0) ∧ w.cell? ⟨c, 2, none⟩ = some (.int .i64 0) ∧ w.cell? ⟨c, 3, none⟩ = some (.slice none 0 0) ∧
    w.cell? ⟨c, 4, none⟩ = some (.int .i64 0) ∧ w.cell? ⟨c, 5, none⟩ = some (.slice none 0 0) ∧ w.cell? ⟨c, 6, none⟩ = some (.int .i64 0) ∧ w.cell? ⟨c, 7, none⟩ = some (.slice none 0 0)) ∧
  (w.cell? ⟨i, 0, none⟩ = some (.int .i64 20) ∧ w.cell? ⟨i, 1, none⟩ = some (.int .i64 0) ∧ w.cell? ⟨i, 2, none⟩ = some (.int .i64 0) ∧ w.cell? ⟨i, 3, none⟩ = some (.int .i64 0) ∧ w.cell? ⟨i, 4, none⟩ = some (.int .i64 0) ∧ w.cell? ⟨i, 5, none⟩ = some (.slice none 0 0)) ∧
  (w.cell? ⟨m, 0, none⟩ = some (.slice none 0 0) ∧ w.cell? ⟨m, 1, none⟩ = some (.int .i64 0) ∧ w.cell? ⟨m, 2, none⟩ = some (.int .i64 0) ∧ w.cell? ⟨m, 3, none⟩ = some (.int .i64 0) ∧ w.cell? ⟨m, 4, none⟩ = some (.int .i64 0) ∧
    w.cell? ⟨m, 5, none⟩ = some (.int .i64 regs) ∧ w.cell? ⟨m, 6, none⟩ = some (.slice (some ⟨i, 0, none⟩) 1 1) ∧ w.cell? ⟨m, 7, none⟩ = some (.slice none 0 0))

theorem file_of {w : World} {B c i m : Nat} {regs : Int} (h : Cells w c i m regs) (hc : c < B) (hi : i < B) (hm : m < B) (hr : Ok regs) :
    VFi w B (.agg #[.slice (some ⟨c, 0, none⟩) 4 4, .slice (some ⟨m, 0, none⟩) 1 1]) ⟨[⟨-1, []⟩, ⟨0, []⟩, ⟨0, []⟩, ⟨0, []⟩], [⟨[], ⟨0, 0⟩, 0, 0, regs, [⟨20, 0, 0, 0, 0, []⟩], []⟩]⟩ := by
  have k0 : Ok 0 := by unfold Ok; omega
  have km : Ok (-1) := by unfold Ok; omega
  have k20 : Ok 20 := by unfold Ok; omega
  obtain ⟨⟨c0, c1, c2, c3, c4, c5, c6, c7⟩, ⟨i0, i1, i2, i3, i4, i5⟩, ⟨m0, m1, m2, m3, m4, m5, m6, m7⟩⟩ := h
  refine ⟨_, _, rfl, ⟨_, 4, rfl, Nat.le_refl _, by omega, fun j hj => ?_⟩, slOne hm ⟨_, _, _, m0, m1, m2, m3, m4, m5, m6, m7, ⟨k0, k0, k0, k0, hr⟩, nilS _ _ _ _, slOne hi ⟨i0, i1, i2, i3, i4, ⟨k20, k0, k0, k0, k0⟩, _, i5, nilS _ _ _ _⟩, nilS _ _ _ _⟩⟩
  refine ⟨c, 0, rfl, hc, ?_⟩
  match j, hj with
  | 0, _ => exact ⟨c0, km, _, c1, nilS _ _ _ _⟩
  | 1, _ => exact ⟨c2, k0, _, c3, nilS _ _ _ _⟩
  | 2, _ => exact ⟨c4, k0, _, c5, nilS _ _ _ _⟩
  | 3, _ => exact ⟨c6, k0, _, c7, nilS _ _ _ _⟩

set_option maxRecDepth 100000 in
set_option maxHeartbeats 4000000 in
theorem formsApart (vf : Value) (f : Fi) (w : World) (hf : VFi w w.heap.size vf f) :
    Calls Try.prog 9 #[vf] w fun e w' => e = .returned (.bool true) ∧ Below w.heap.size w w' := by
  have hf0 := Lib.hid hf
  obtain ⟨vc, vme, rfl, _, _⟩ := hf
  obtain ⟨p, hp⟩ : ∃ p, Hid (Form.smay f = p) := ⟨_, rfl⟩
  have hq : Hid (p = true → Rform.rmay f = false) := fun h => Bytes.apart f (hp.out.trans h)
  go_enter Try.func9, Try.ntmps9
  go_wp2_with fail
  refine callsW (fun W => Hid (Cells W (w.heap.size + 1) (w.heap.size + 1 + 1) (w.heap.size + 1 + 1 + 1) 0) ∧ Hid (Cells W (w.heap.size + 1) (w.heap.size + 1 + 1 + 1 + 1 + 1) (w.heap.size + 1 + 1 + 1 + 1 + 1 + 1) 1) ∧ w.heap.size + 1 + 1 + 1 + 1 + 1 + 1 + 1 < W.heap.size ∧ Below w.heap.size w W ∧
    (W.cell? ⟨w.heap.size, 0, none⟩ = some vc ∧ W.cell? ⟨w.heap.size, 1, none⟩ = some vme) ∧ (W.cell? ⟨w.heap.size + 1 + 1 + 1 + 1 + 1 + 1 + 1, 0, none⟩ = some (.slice (some ⟨w.heap.size + 1, 0, none⟩) 4 4) ∧ W.cell? ⟨w.heap.size + 1 + 1 + 1 + 1 + 1 + 1 + 1, 1, none⟩ = some (.slice (some ⟨w.heap.size + 1 + 1 + 1 + 1 + 1 + 1, 0, none⟩) 1 1))) ?_ ?_
  · refine ⟨?_, ?_, by simp, (by repeat' (first | with_reducible exact Below.refl _ _ | with_reducible assumption | exact Nat.le_refl _ | with_reducible refine Go.Proofs.Ytncmhenfgbcihaa.Rd.below_drewN ?_ _ | with_reducible refine Below.alloc ?_ ?_ _ | with_reducible refine Below.setCell ?_ ?_ _ | with_reducible refine Below.drew ?_ | omega | (simp; omega) | (simp; done))), ⟨by go_simp, by go_simp⟩, by go_simp, by go_simp⟩
    · show Cells _ _ _ _ _
      refine ⟨⟨?_, ?_, ?_, ?_, ?_, ?_, ?_, ?_⟩, ⟨?_, ?_, ?_, ?_, ?_, ?_⟩, ⟨?_, ?_, ?_, ?_, ?_, ?_, ?_, ?_⟩⟩ <;> go_simp
    · show Cells _ _ _ _ _
      refine ⟨⟨?_, ?_, ?_, ?_, ?_, ?_, ?_, ?_⟩, ⟨?_, ?_, ?_, ?_, ?_, ?_⟩, ⟨?_, ?_, ?_, ?_, ?_, ?_, ?_, ?_⟩⟩ <;> go_simp
  rintro W ⟨h1, h2, hlt, hb, ⟨b0, b1⟩, ⟨t0, t1⟩⟩
  have hbs := hb.size
  refine (smayV oneF true _ _ one_may (file_of h1.out (by omega) (by omega) (by omega) (by unfold Ok; omega))).mono ?_
  rintro e w1 ⟨rfl, hb1⟩
  have b0' := kept hb1 (by omega) b0
  have b1' := kept hb1 (by omega) b1
  have t0' := kept hb1 (by omega) t0
  have t1' := kept hb1 (by omega) t1
  have hF := Lib.hid ((file_of h2.out (B := W.heap.size) (by omega) (by omega) (by omega) (by unfold Ok; omega)).mono hb1 hb1.size)
  have hs1 := hb1.size
  have HB1 := Lib.hid hb1
  clear b0 b1 t0 t1 hb1
  go_wp2_with fail
  refine (lrmayV twoF true _ _ two_may hF.out).mono ?_
  rintro e w2 ⟨rfl, hb2⟩
  have b0 := kept hb2 (by omega) b0'
  have b1 := kept hb2 (by omega) b1'
  have hs2 := hb2.size
  have hw2 := Lib.hid (hb.trans (((HB1.out).trans (hb2.mono hs1)).mono hbs))
  clear b0' b1' t0' t1' hb2
  have hff := Lib.hid (hf0.out.mono hw2.out hw2.out.size)
  cases p
  · go_wp2_with fail
    refine (smayV f false _ _ hp.out hff.out).mono ?_
    rintro e w3 ⟨rfl, hb3⟩
    have HB3 := Lib.hid hb3
    clear hb3
    go_wp2_with fail
    go_ret
    exact ⟨ret_bool (by rfl), hw2.out.trans (HB3.out.mono hw2.out.size)⟩
  · go_wp2_with fail
    refine (smayV f true _ _ hp.out hff.out).mono ?_
    rintro e w3 ⟨rfl, hb3⟩
    have b0' := kept hb3 (by omega) b0
    have b1' := kept hb3 (by omega) b1
    have HB3 := Lib.hid hb3
    clear hb3 b0 b1
    go_wp2_with fail
    refine (lrmayV f false _ _ (hq.out trivial) (hff.out.mono HB3.out HB3.out.size)).mono ?_
    rintro e w4 ⟨rfl, hb4⟩
    have HB4 := Lib.hid hb4
    clear hb4
    go_wp2_with fail
    go_ret
    exact ⟨ret_bool (by rfl), hw2.out.trans ((HB3.out.trans (HB4.out.mono HB3.out.size)).mono hw2.out.size)⟩
end Apart
end Go.Proofs.Ytncmhenfgbcihaa
