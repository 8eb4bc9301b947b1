/- The walk through sform.May. -/
import Derived.Test.YtncmhenfgbcihabFormM
namespace Go.Proofs.Ytncmhenfgbcihab
open Go.RowKit
set_option linter.unusedSimpArgs false
set_option linter.unusedVariables false
namespace FormW
open Num Rd D HierW

theorem methodV (f : Fi) (m : Me) (p : Bool) (vf vm : Value) (w : World) (hp : Form.sme f m = p) (hf : VFi w w.heap.size vf f) (hm : VMe w w.heap.size vm m) :
    Calls Try.prog 90 #[vf, vm] w fun e w' => e = .returned (.bool p) ∧ Below w.heap.size w w' := by
  subst hp; exact method f m vf vm w hf hm
theorem mayV (v : Value) (l : List Cls) (p : Bool) (w : World) (hp : Hier.may l = p) (h : Cs w v l) : Calls Try.prog 88 #[v] w fun e w' => e = .returned (.bool p) ∧ Below w.heap.size w w' := by
  subst hp; exact may v l w h

set_option maxRecDepth 100000 in
set_option maxHeartbeats 4000000 in
theorem smay (f : Fi) (vf : Value) (w : World) (hf : VFi w w.heap.size vf f) :
    Calls Try.prog 46 #[vf] w fun e w' => e = .returned (.bool (Form.smay f)) ∧ Below w.heap.size w w' := by
  have hf0 := hf
  obtain ⟨vc, vme, rfl, hcs, ⟨ma, mcap, rfl, mlc, mcc, mel⟩⟩ := hf
  obtain ⟨ph, hph⟩ : ∃ p, Hid (Hier.may f.classes = p) := ⟨_, rfl⟩
  obtain ⟨pn, hpn⟩ : ∃ p, Hid (Form.rng f.methods.length 1 9 = p) := ⟨_, rfl⟩
  have hall0 : Hid (Form.smay f = (ph && pn && f.methods.all (Form.sme f))) := by
    show _ = _
    rw [← hph.out, ← hpn.out]; rfl
  cases ph <;> cases pn
  all_goals go_enter Try.func46, Try.ntmps46
  all_goals go_wp2_with (first
    | (go_at_call 88; refine (mayV _ _ _ _ hph.out (Cs.next hcs (by repeat' (first | with_reducible exact Below.refl _ _ | with_reducible assumption | exact Nat.le_refl _ | with_reducible refine Go.Proofs.Ytncmhenfgbcihab.Rd.below_drewN ?_ _ | with_reducible refine Below.alloc ?_ ?_ _ | with_reducible refine Below.setCell ?_ ?_ _ | with_reducible refine Below.drew ?_ | omega | (simp; omega) | (simp; done))))).mono ?_; rintro e w1 ⟨rfl, hb1⟩; have hw1 : Below w.heap.size w w1 := Below.trans (by repeat' (first | with_reducible exact Below.refl _ _ | with_reducible assumption | exact Nat.le_refl _ | with_reducible refine Go.Proofs.Ytncmhenfgbcihab.Rd.below_drewN ?_ _ | with_reducible refine Below.alloc ?_ ?_ _ | with_reducible refine Below.setCell ?_ ?_ _ | with_reducible refine Below.drew ?_ | omega | (simp; omega) | (simp; done))) (hb1.mono (by simp)); have y0 : w1.cell? ⟨w.heap.size, 0, none⟩ = some vc := kept hb1 (by simp) (by go_simp); have y1 : w1.cell? ⟨w.heap.size, 1, none⟩ = some (.slice ma f.methods.length mcap) := kept hb1 (by simp) (by go_simp))
    | (go_at_call 89; refine (sinV _ _ _ _ _ hpn.out).mono ?_; rintro e w2 ⟨rfl, rfl⟩))
  all_goals first
    | (go_ret
       exact ⟨ret_bool (by rw [hall0.out]; simp), hw1⟩)
    | skip
  have hws := hw1.size
  have nn : w.heap.size < w1.heap.size := by have := lt_cell y0; omega
  go_loopw [19] (fun i wr => ∃ k : Nat, k ≤ f.methods.length ∧ i = .int .i64 k ∧ Below w1.heap.size w1 wr ∧ Hid (∀ j (h : j < f.methods.length), j < k → Form.sme f f.methods[j] = true)) (fun i _ => f.methods.length - (intOf i).toNat)
  case atStart => exact ⟨0, by omega, rfl, (by repeat' (first | with_reducible exact Below.refl _ _ | with_reducible assumption | exact Nat.le_refl _ | with_reducible refine Go.Proofs.Ytncmhenfgbcihab.Rd.below_drewN ?_ _ | with_reducible refine Below.alloc ?_ ?_ _ | with_reducible refine Below.setCell ?_ ?_ _ | with_reducible refine Below.drew ?_ | omega | (simp; omega) | (simp; done))), fun j _ h => absurd h (by omega)⟩
  case round =>
    obtain ⟨k, hk, rfl, hq, hall⟩ := hrel
    have hqs := hq.size
    have hwr : Below w.heap.size w wr := hw1.trans (hq.mono hws)
    have hwrs := hwr.size
    have n3 : w.heap.size < wr.heap.size := by omega
    have c1 := kept hq (by omega) y0
    have c2 := kept hq (by omega) y1
    clear y0 y1
    by_cases hlt : k < f.methods.length
    · obtain ⟨b, o, rfl, hb, he⟩ := mel k hlt
      have hyes := Lib.hid (Form.all_step (p := Form.sme f) hall.out hlt)
      have hno := Lib.hid (Form.all_not (p := Form.sme f) hlt)
      obtain ⟨t, ht⟩ := at_of hlt
      rw [ht.out] at he hyes hno
      obtain ⟨vp, vd, vh, g0, g1, g2, g3, g4, g5, g6, g7, oks, s1, s2, s3⟩ := he
      have hvm : VMe w w.heap.size (.agg #[vp, .int .i64 t.ret.kind, .int .i64 t.ret.cls, .int .i64 t.stack, .int .i64 t.locals, .int .i64 t.regs, vd, vh]) t := ⟨vp, vd, vh, rfl, oks, s1, s2, s3⟩
      obtain ⟨pa, pcap, rfl, _, _, _⟩ := s1
      obtain ⟨da, dcap, rfl, _, _, _⟩ := s2
      obtain ⟨ha, hcap, rfl, _, _, _⟩ := s3
      have k0 := kept hwr hb g0
      have k1 := kept hwr hb g1
      have k2 := kept hwr hb g2
      have k3 := kept hwr hb g3
      have k4 := kept hwr hb g4
      have k5 := kept hwr hb g5
      have k6 := kept hwr hb g6
      have k7 := kept hwr hb g7
      obtain ⟨p, hp⟩ : ∃ p, Hid (Form.sme f t = p) := ⟨_, rfl⟩
      have hq2 := Lib.hid hq
      have hwr2 := Lib.hid hwr
      clear mel g0 g1 g2 g3 g4 g5 g6 g7
      cases p
      all_goals go_wp2_with (go_at_call 90; refine (methodV f t _ _ _ _ hp.out (hf0.mono (by repeat' (first | with_reducible exact Below.refl _ _ | with_reducible assumption | exact Nat.le_refl _ | with_reducible refine Go.Proofs.Ytncmhenfgbcihab.Rd.below_drewN ?_ _ | with_reducible refine Below.alloc ?_ ?_ _ | with_reducible refine Below.setCell ?_ ?_ _ | with_reducible refine Below.drew ?_ | omega | (simp; omega) | (simp; done))) (by simp; omega)) (hvm.mono (by repeat' (first | with_reducible exact Below.refl _ _ | with_reducible assumption | exact Nat.le_refl _ | with_reducible refine Go.Proofs.Ytncmhenfgbcihab.Rd.below_drewN ?_ _ | with_reducible refine Below.alloc ?_ ?_ _ | with_reducible refine Below.setCell ?_ ?_ _ | with_reducible refine Below.drew ?_ | omega | (simp; omega) | (simp; done))) (by simp; omega))).mono ?_; rintro e w6 ⟨rfl, hb6⟩; have hw6 : Below wr.heap.size wr w6 := Below.trans (by repeat' (first | with_reducible exact Below.refl _ _ | with_reducible assumption | exact Nat.le_refl _ | with_reducible refine Go.Proofs.Ytncmhenfgbcihab.Rd.below_drewN ?_ _ | with_reducible refine Below.alloc ?_ ?_ _ | with_reducible refine Below.setCell ?_ ?_ _ | with_reducible refine Below.drew ?_ | omega | (simp; omega) | (simp; done))) (hb6.mono (by simp)))
      · go_ret
        exact ⟨ret_bool (by rw [hall0.out]; simp [hno.out hp.out]), hwr2.out.trans (hw6.mono hwrs)⟩
      · go_roundw
        case rel => exact ⟨k + 1, by omega, by go_num, hq2.out.trans (hw6.mono hqs), hyes.out hp.out⟩
        case measure => simp [intOf]; omega
    · have hst := Lib.hid (Form.all_of (p := Form.sme f) (fun j hj => hall.out j hj (by omega)))
      clear hall mel
      go_wp2
      go_ret
      exact ⟨ret_bool (by rw [hall0.out, hst.out]; rfl), hwr⟩
end FormW
end Go.Proofs.Ytncmhenfgbcihab
