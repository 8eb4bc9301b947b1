/- The walk through sform.fields. -/
import Derived.Test.YtncmhenfgbcihabFormW
namespace Go.Proofs.Ytncmhenfgbcihab
open Go.RowKit
set_option linter.unusedSimpArgs false
set_option linter.unusedVariables false
namespace FormW
open Num Rd D HierW

theorem ret_bool3 {a b c d e f : Bool} (h1 : a = d) (h2 : b = e) (h3 : c = f) : Ending.returned (.tuple #[.bool a, .bool b, .bool c]) = .returned (.tuple #[.bool d, .bool e, .bool f]) := by rw [h1, h2, h3]

set_option maxRecDepth 100000 in
set_option maxHeartbeats 8000000 in
theorem fields (f : Fi) (m : Me) (i : Ins) (vf vm vi : Value) (w : World) (hf : VFi w w.heap.size vf f) (hm : VMe w w.heap.size vm m) (hi : VIns w w.heap.size vi i) (hloc : 0 ≤ m.locals ∧ m.locals ≤ 60) :
    Calls Try.prog 142 #[vf, vm, vi] w fun e w' => e = .returned (.tuple #[.bool (Form.sa f.classes f.methods.length m.code.length m.locals i), .bool (Form.sb f.classes i), .bool (Form.sn i)]) ∧ Below w.heap.size w w' := by
  obtain ⟨vc, vme, rfl, ⟨ca, ccap, rfl, clc, ccc, cel⟩, ⟨ma, mcap, rfl, mlc, mcc, _⟩⟩ := hf
  obtain ⟨vp, vcd, vh, rfl, ⟨_, _, _, okl, _⟩, _, ⟨da, dcap, rfl, dlc, dcc, _⟩, _⟩ := hm
  obtain ⟨va, rfl, ⟨oop, oa, ob, oc, on⟩, _⟩ := hi
  obtain ⟨op, a, b, c, n, args⟩ := i
  simp only at *
  unfold Ok at *
  obtain ⟨hloc1, hloc2⟩ := hloc
  go_enter Try.func142, Try.ntmps142
  go_wp2
  go_quiet (fail)
  refine name_world (fun W => Below w.heap.size w W ∧ w.heap.size + 3 ≤ W.heap.size ∧
    (W.cell? ⟨w.heap.size, 0, none⟩ = some (.slice ca f.classes.length ccap) ∧ W.cell? ⟨w.heap.size, 1, none⟩ = some (.slice ma f.methods.length mcap)) ∧
    (W.cell? ⟨w.heap.size + 1, 4, none⟩ = some (.int .i64 m.locals) ∧ W.cell? ⟨w.heap.size + 1, 6, none⟩ = some (.slice da m.code.length dcap)) ∧
    W.cell? ⟨w.heap.size + 1 + 1, 0, none⟩ = some (.int .i64 op) ∧ W.cell? ⟨w.heap.size + 1 + 1, 1, none⟩ = some (.int .i64 a) ∧ W.cell? ⟨w.heap.size + 1 + 1, 2, none⟩ = some (.int .i64 b) ∧ W.cell? ⟨w.heap.size + 1 + 1, 4, none⟩ = some (.int .i64 n))
    ?_ ?_
  · refine ⟨(by repeat' (first | with_reducible exact Below.refl _ _ | with_reducible assumption | exact Nat.le_refl _ | with_reducible refine Go.Proofs.Ytncmhenfgbcihab.Rd.below_drewN ?_ _ | with_reducible refine Below.alloc ?_ ?_ _ | with_reducible refine Below.setCell ?_ ?_ _ | with_reducible refine Below.drew ?_ | omega | (simp; omega) | (simp; done))), ?_, ⟨?_, ?_⟩, ⟨?_, ?_⟩, ?_, ?_, ?_, ?_⟩
    all_goals go_simp
  rintro W ⟨hbw, hsz, ⟨f1, f2⟩, ⟨m1, m2⟩, i1, i2, i3, i4⟩
  have hbs := Lib.hid hbw
  go_wp2_with (go_at_call 89; refine (sin _ _ _ _).mono ?_; rintro e w' ⟨rfl, rfl⟩)
  all_goals first
    | (go_ret3
       refine ⟨ret_bool3 ?_ ?_ ?_, (by repeat' (first | with_reducible exact Below.refl _ _ | with_reducible assumption | exact Nat.le_refl _ | with_reducible refine Go.Proofs.Ytncmhenfgbcihab.Rd.below_drewN ?_ _ | with_reducible refine Below.alloc ?_ ?_ _ | with_reducible refine Below.setCell ?_ ?_ _ | with_reducible refine Below.drew ?_ | omega | (simp; omega) | (simp; done)))⟩
       all_goals go_tidy
       all_goals simp_all [Form.sa, Form.sb, Form.sn]
       all_goals first | rfl | (intros; omega) | (rw [wrap64_id (wrap32_ok _), Bool.eq_iff_iff]; simp; exact eq_comm))
    | skip
  · have o1 : Ok b := ob
    have o2 : Ok 0 := by unfold Ok; omega
    obtain ⟨S, hS⟩ : ∃ S, Hid (Form.slots [⟨b, 0⟩] = S) := ⟨_, rfl⟩
    have hS' : Hid ((S : Int) = Form.wide b) := by show _ = _; rw [← hS.out]; exact slots_one b 0
    have hS2 : (S : Int) ≤ 2 := by rw [hS'.out]; unfold Form.wide; split <;> omega
    go_region_held3 (fun w' => w'.cell? ⟨w.heap.size + 1 + 1, 1, none⟩ = some (.int .i64 a) ∧ w'.cell? ⟨w.heap.size + 1 + 1, 2, none⟩ = some (.int .i64 b) ∧ w'.cell? ⟨w.heap.size + 1, 4, none⟩ = some (.int .i64 m.locals))
      (first | exact ⟨i2, i3, m1⟩ | exact ⟨k2, k3, k1⟩ | go_keep)
      (first
      | (go_at_call 92; refine (slotsV _ [⟨b, 0⟩] S _ (Ts.one (by go_simp) (by go_simp) o1 o2) (by simp) hS.out).mono ?_; rintro e w2 ⟨rfl, hb2⟩; have hbW : Below W.heap.size W w2 := Below.trans (by repeat' (first | with_reducible exact Below.refl _ _ | with_reducible assumption | exact Nat.le_refl _ | with_reducible refine Go.Proofs.Ytncmhenfgbcihab.Rd.below_drewN ?_ _ | with_reducible refine Below.alloc ?_ ?_ _ | with_reducible refine Below.setCell ?_ ?_ _ | with_reducible refine Below.drew ?_ | omega | (simp; omega) | (simp; done))) (hb2.mono (by simp)); have k1 := kept hbW (by omega) m1; have k2 := kept hbW (by omega) i2; have k3 := kept hbW (by omega) i3)
      | (go_at_call 89; refine (sin _ _ _ _).mono ?_; rintro e w3 ⟨rfl, rfl⟩))
    go_wp2
    go_ret3
    have hS3 := hS'.out
    have hbW2 : Below w.heap.size w w2 := hbs.out.trans (hbW.mono hbs.out.size)
    refine ⟨ret_bool3 ?_ ?_ ?_, hbW2⟩
    all_goals go_tidy
    · rw [Num.wrap_i64, Num.wrap_i64, wrap64_id (show Ok (m.locals + 1) from ⟨by omega, by omega⟩), wrap64_id (show Ok (m.locals + 1 - S) from ⟨by omega, by omega⟩), hS3]
      simp_all [Form.sa]
    · simp_all [Form.sb]
    · simp_all [Form.sn]
      try rfl
  · have o1 : Ok b := ob
    have o2 : Ok 0 := by unfold Ok; omega
    obtain ⟨S, hS⟩ : ∃ S, Hid (Form.slots [⟨b, 0⟩] = S) := ⟨_, rfl⟩
    have hS' : Hid ((S : Int) = Form.wide b) := by show _ = _; rw [← hS.out]; exact slots_one b 0
    have hS2 : (S : Int) ≤ 2 := by rw [hS'.out]; unfold Form.wide; split <;> omega
    go_region_held3 (fun w' => w'.cell? ⟨w.heap.size + 1 + 1, 1, none⟩ = some (.int .i64 a) ∧ w'.cell? ⟨w.heap.size + 1 + 1, 2, none⟩ = some (.int .i64 b) ∧ w'.cell? ⟨w.heap.size + 1, 4, none⟩ = some (.int .i64 m.locals))
      (first | exact ⟨i2, i3, m1⟩ | exact ⟨k2, k3, k1⟩ | go_keep)
      (first
      | (go_at_call 92; refine (slotsV _ [⟨b, 0⟩] S _ (Ts.one (by go_simp) (by go_simp) o1 o2) (by simp) hS.out).mono ?_; rintro e w2 ⟨rfl, hb2⟩; have hbW : Below W.heap.size W w2 := Below.trans (by repeat' (first | with_reducible exact Below.refl _ _ | with_reducible assumption | exact Nat.le_refl _ | with_reducible refine Go.Proofs.Ytncmhenfgbcihab.Rd.below_drewN ?_ _ | with_reducible refine Below.alloc ?_ ?_ _ | with_reducible refine Below.setCell ?_ ?_ _ | with_reducible refine Below.drew ?_ | omega | (simp; omega) | (simp; done))) (hb2.mono (by simp)); have k1 := kept hbW (by omega) m1; have k2 := kept hbW (by omega) i2; have k3 := kept hbW (by omega) i3)
      | (go_at_call 89; refine (sin _ _ _ _).mono ?_; rintro e w3 ⟨rfl, rfl⟩))
    go_wp2
    go_ret3
    have hS3 := hS'.out
    have hbW2 : Below w.heap.size w w2 := hbs.out.trans (hbW.mono hbs.out.size)
    refine ⟨ret_bool3 ?_ ?_ ?_, hbW2⟩
    all_goals go_tidy
    · rw [Num.wrap_i64, Num.wrap_i64, wrap64_id (show Ok (m.locals + 1) from ⟨by omega, by omega⟩), wrap64_id (show Ok (m.locals + 1 - S) from ⟨by omega, by omega⟩), hS3]
      simp_all [Form.sa]
    · simp_all [Form.sb]
    · simp_all [Form.sn]
      try rfl
  · obtain ⟨p, hp⟩ : ∃ p, Hid (Form.rng a 0 f.classes.length = p) := ⟨_, rfl⟩
    rw [hp.out]
    cases p
    · have hr := hp.out
      go_quiet (fail)
      go_wp2
      go_ret3
      refine ⟨ret_bool3 ?_ ?_ ?_, (by repeat' (first | with_reducible exact Below.refl _ _ | with_reducible assumption | exact Nat.le_refl _ | with_reducible refine Go.Proofs.Ytncmhenfgbcihab.Rd.below_drewN ?_ _ | with_reducible refine Below.alloc ?_ ?_ _ | with_reducible refine Below.setCell ?_ ?_ _ | with_reducible refine Below.drew ?_ | omega | (simp; omega) | (simp; done)))⟩
      all_goals go_tidy
      all_goals simp_all [Form.sa, Form.sb, Form.sn]
      all_goals first | rfl | (intros; omega)
    · have hr := hp.out
      have hr2 : 0 ≤ a ∧ a < f.classes.length := by simpa [Form.rng] using hr
      obtain ⟨k, rfl⟩ := Int.eq_ofNat_of_zero_le hr2.1
      have hk : k < f.classes.length := by omega
      obtain ⟨b0, o0, rfl, hb0, he⟩ := cel k hk
      have hnf : Hid (Form.nf f.classes (k : Int) = (f.classes[k]).fields.length) := by
        show _ = _
        rw [Form.nf, Int.toNat_natCast, Hier.at_eq hk]
      obtain ⟨x, hx⟩ := at_of hk
      rw [hx.out] at he hnf
      obtain ⟨_, _, fv, g3, fa, fcap, rfl, flc, fcc, _⟩ := he
      have g4 := kept hbw hb0 g3
      clear cel g3
      have hr3 := hr2.2
      go_quiet ((go_at_call 89; exact Calls.quiet_of_same (sin' _ _ _ _)))
      go_wp2
      go_ret3
      refine ⟨ret_bool3 ?_ ?_ ?_, (by repeat' (first | with_reducible exact Below.refl _ _ | with_reducible assumption | exact Nat.le_refl _ | with_reducible refine Go.Proofs.Ytncmhenfgbcihab.Rd.below_drewN ?_ _ | with_reducible refine Below.alloc ?_ ?_ _ | with_reducible refine Below.setCell ?_ ?_ _ | with_reducible refine Below.drew ?_ | omega | (simp; omega) | (simp; done)))⟩
      all_goals go_tidy
      all_goals simp_all [Form.sa, Form.sb, Form.sn, hnf.out]
      all_goals first | rfl | (intros; omega)
  · obtain ⟨p, hp⟩ : ∃ p, Hid (Form.rng a 0 f.classes.length = p) := ⟨_, rfl⟩
    rw [hp.out]
    cases p
    · have hr := hp.out
      go_quiet (fail)
      go_wp2
      go_ret3
      refine ⟨ret_bool3 ?_ ?_ ?_, (by repeat' (first | with_reducible exact Below.refl _ _ | with_reducible assumption | exact Nat.le_refl _ | with_reducible refine Go.Proofs.Ytncmhenfgbcihab.Rd.below_drewN ?_ _ | with_reducible refine Below.alloc ?_ ?_ _ | with_reducible refine Below.setCell ?_ ?_ _ | with_reducible refine Below.drew ?_ | omega | (simp; omega) | (simp; done)))⟩
      all_goals go_tidy
      all_goals simp_all [Form.sa, Form.sb, Form.sn]
      all_goals first | rfl | (intros; omega)
    · have hr := hp.out
      have hr2 : 0 ≤ a ∧ a < f.classes.length := by simpa [Form.rng] using hr
      obtain ⟨k, rfl⟩ := Int.eq_ofNat_of_zero_le hr2.1
      have hk : k < f.classes.length := by omega
      obtain ⟨b0, o0, rfl, hb0, he⟩ := cel k hk
      have hnf : Hid (Form.nf f.classes (k : Int) = (f.classes[k]).fields.length) := by
        show _ = _
        rw [Form.nf, Int.toNat_natCast, Hier.at_eq hk]
      obtain ⟨x, hx⟩ := at_of hk
      rw [hx.out] at he hnf
      obtain ⟨_, _, fv, g3, fa, fcap, rfl, flc, fcc, _⟩ := he
      have g4 := kept hbw hb0 g3
      clear cel g3
      have hr3 := hr2.2
      go_quiet ((go_at_call 89; exact Calls.quiet_of_same (sin' _ _ _ _)))
      go_wp2
      go_ret3
      refine ⟨ret_bool3 ?_ ?_ ?_, (by repeat' (first | with_reducible exact Below.refl _ _ | with_reducible assumption | exact Nat.le_refl _ | with_reducible refine Go.Proofs.Ytncmhenfgbcihab.Rd.below_drewN ?_ _ | with_reducible refine Below.alloc ?_ ?_ _ | with_reducible refine Below.setCell ?_ ?_ _ | with_reducible refine Below.drew ?_ | omega | (simp; omega) | (simp; done)))⟩
      all_goals go_tidy
      all_goals simp_all [Form.sa, Form.sb, Form.sn, hnf.out]
      all_goals first | rfl | (intros; omega)
end FormW
end Go.Proofs.Ytncmhenfgbcihab
