/- The walk through crosswalkref3.ins. -/
import Derived.Test.YtncmhenfgbcihaaFormR
import Derived.Test.YtncmhenfgbcihaaDrawn
namespace Go.Proofs.Ytncmhenfgbcihaa
open Go.RowKit
set_option linter.unusedSimpArgs false
set_option linter.unusedVariables false
namespace FormR
open Num Rd D HierW FormW

theorem wi' (n lo hi : Int) (w : World) : Calls Try.prog 48 #[.int .i64 n, .int .i64 lo, .int .i64 hi] w fun e w' => e = .returned (.bool (within n lo hi)) ∧ w' = w := (wi n lo hi w).mono fun e w' ⟨h1, h2⟩ => ⟨h1, h2.symm⟩
theorem sn1 (n : Int) : decide (wrap32 n = n) = (decide (-2147483648 ≤ n) && decide (n ≤ 2147483647)) := by
  rw [Bool.eq_iff_iff]; simp only [Bool.and_eq_true, decide_eq_true_eq]; unfold wrap32; omega
theorem wide2 : Form.wide 2 = 2 := rfl
theorem wide_not {k : Int} (h : ¬ k = 2) : Form.wide k = 1 := by simp [Form.wide, h]

theorem sins_args {cl : List Cls} {nm nc lo : Int} {i : Ins} (h : 0 < i.args.length) : Form.sins cl nm nc lo i = false := by
  unfold Form.sins
  rw [show decide (i.args.length = 0) = false from decide_eq_false (by omega)]; simp

set_option maxRecDepth 100000 in
set_option maxHeartbeats 8000000 in
theorem ins (f : Fi) (m : Me) (i : Ins) (vf vm vi : Value) (w : World) (hf : VFi w w.heap.size vf f) (hm : VMe w w.heap.size vm m) (hi : VIns w w.heap.size vi i) (hloc : 0 ≤ m.locals ∧ m.locals ≤ 60) :
    Calls Try.prog 51 #[vf, vm, vi] w fun e w' => e = .returned (.bool (Form.sins f.classes f.methods.length m.code.length m.locals i)) ∧ Below w.heap.size w w' := by
  obtain ⟨vc, vme, rfl, ⟨ca, ccap, rfl, clc, ccc, cel⟩, ⟨ma, mcap, rfl, mlc, mcc, _⟩⟩ := hf
  obtain ⟨vp, vcd, vh, rfl, ⟨_, _, _, okl, _⟩, _, ⟨da, dcap, rfl, dlc, dcc, _⟩, _⟩ := hm
  obtain ⟨va, rfl, ⟨oop, oa, ob, oc, on⟩, ⟨aa, acap, rfl, alc, acc, _⟩⟩ := hi
  obtain ⟨op, a, b, c, n, args⟩ := i
  simp only at *
  unfold Ok at *
  obtain ⟨hloc1, hloc2⟩ := hloc
  go_enter Try.func51, Try.ntmps51
  go_wp2_with (go_at_call 48; refine (wi _ _ _ _).mono ?_; rintro e w' ⟨rfl, rfl⟩)
  all_goals first
    | (go_ret
       refine ⟨ret_bool ?_, (by repeat' (first | with_reducible exact Below.refl _ _ | with_reducible assumption | exact Nat.le_refl _ | with_reducible refine Go.Proofs.Ytncmhenfgbcihaa.Rd.below_drewN ?_ _ | with_reducible refine Below.alloc ?_ ?_ _ | with_reducible refine Below.setCell ?_ ?_ _ | with_reducible refine Below.drew ?_ | omega | (simp; omega) | (simp; done)))⟩
       go_tidy
       first
       | (exact (sins_args (by show 0 < args.length; assumption)).symm)
       | simp_all [Form.sins, Form.sa, Form.sb, Form.sn, sn1, wide2, wide_not, Form.rng, within]
       first | done | rfl | (intros; omega) | (rw [Bool.eq_iff_iff]; simp; omega) | (apply decide_eq_decide.2; omega))
    | skip
  · refine name_world (fun W => Below w.heap.size w W ∧ W.cell? ⟨w.heap.size + 1 + 1, 1, none⟩ = some (.int .i64 a) ∧ W.cell? ⟨w.heap.size + 1 + 1, 2, none⟩ = some (.int .i64 b) ∧ W.cell? ⟨w.heap.size, 0, none⟩ = some (.slice ca f.classes.length ccap)) ?_ ?_
    · refine ⟨(by repeat' (first | with_reducible exact Below.refl _ _ | with_reducible assumption | exact Nat.le_refl _ | with_reducible refine Go.Proofs.Ytncmhenfgbcihaa.Rd.below_drewN ?_ _ | with_reducible refine Below.alloc ?_ ?_ _ | with_reducible refine Below.setCell ?_ ?_ _ | with_reducible refine Below.drew ?_ | omega | (simp; omega) | (simp; done))), ?_, ?_, ?_⟩
      all_goals go_simp
    rintro W ⟨hbw, z1, z2, z3⟩
    obtain ⟨p, hp⟩ : ∃ p, Hid (within a 0 ((f.classes.length : Int) - 1) = p) := ⟨_, rfl⟩
    cases p
    · have hr := hp.out
      have hr1 := hp.out
      rw [within_rng] at hr1
      simp only [Int.sub_add_cancel] at hr1
      have e1 : Hid (Form.sins f.classes f.methods.length m.code.length m.locals ⟨op, a, b, c, n, args⟩ = false) := by
        show _ = _
        simp_all [Form.sins, Form.sa, Form.sb, Form.sn]
      refine wp_region_held_drew (S := fun w' => w'.cell? ⟨w.heap.size + 1 + 1, 1, none⟩ = some (.int .i64 a) ∧ w'.cell? ⟨w.heap.size + 1 + 1, 2, none⟩ = some (.int .i64 b)) (by kernel_rfl) (by (try dsimp only); first | exact ⟨z1, z2⟩ | go_keep) (fun hHeld => ?_)
      refine Drawn.tk 0 (some 100) rfl rfl (by assumption) ?_
      try simp only [Act.put, List.setIfInBounds_toArray, List.set_cons_zero, List.set_cons_succ]
      refine Drawn.tk 1 (some 101) rfl rfl (by assumption) ?_
      try simp only [Act.put, List.setIfInBounds_toArray, List.set_cons_zero, List.set_cons_succ]
      refine Drawn.tk 2 (some 102) rfl rfl (by assumption) ?_
      try simp only [Act.put, List.setIfInBounds_toArray, List.set_cons_zero, List.set_cons_succ]
      refine wpAnyH_ready (rs := [3]) (by kernel_rfl) (by simp) ?_
      refine AllReadyH.cons rfl (fun K hK => ?_) AllReadyH.nil
      go_simp
      go_at_call 48
      refine (wiV _ _ _ _ _ hp.out).mono ?_
      rintro e w2 ⟨rfl, rfl⟩
      go_wp2_with fail
      refine hK.out _ _ (by (try dsimp only); exact ⟨z1, z2⟩) (fun hHeld => ?_)
      clear hK K
      try simp only [Act.put, List.setIfInBounds_toArray, List.set_cons_zero, List.set_cons_succ]
      refine Drawn.tk 4 (some 104) rfl rfl (by assumption) ?_
      try simp only [Act.put, List.setIfInBounds_toArray, List.set_cons_zero, List.set_cons_succ]
      refine Drawn.ps 5 (some 105) rfl rfl (by assumption) ?_
      try simp only [Act.put, List.setIfInBounds_toArray, List.set_cons_zero, List.set_cons_succ]
      refine Drawn.ps 6 (some 106) rfl rfl (by assumption) ?_
      try simp only [Act.put, List.setIfInBounds_toArray, List.set_cons_zero, List.set_cons_succ]
      refine Drawn.ps 7 (some 107) rfl rfl (by assumption) ?_
      try simp only [Act.put, List.setIfInBounds_toArray, List.set_cons_zero, List.set_cons_succ]
      refine Drawn.ps 8 (some 108) rfl rfl (by assumption) ?_
      try simp only [Act.put, List.setIfInBounds_toArray, List.set_cons_zero, List.set_cons_succ]
      refine Drawn.ps 9 (some 109) rfl rfl (by assumption) ?_
      try simp only [Act.put, List.setIfInBounds_toArray, List.set_cons_zero, List.set_cons_succ]
      refine Drawn.ps 10 (some 110) rfl rfl (by assumption) ?_
      try simp only [Act.put, List.setIfInBounds_toArray, List.set_cons_zero, List.set_cons_succ]
      refine Drawn.ps 11 (some 111) rfl rfl (by assumption) ?_
      try simp only [Act.put, List.setIfInBounds_toArray, List.set_cons_zero, List.set_cons_succ]
      refine Drawn.ps 12 (some 112) rfl rfl (by assumption) ?_
      try simp only [Act.put, List.setIfInBounds_toArray, List.set_cons_zero, List.set_cons_succ]
      refine Drawn.ps 13 (some 113) rfl rfl (by assumption) ?_
      try simp only [Act.put, List.setIfInBounds_toArray, List.set_cons_zero, List.set_cons_succ]
      refine Drawn.ps 14 (some 114) rfl rfl (by assumption) ?_
      try simp only [Act.put, List.setIfInBounds_toArray, List.set_cons_zero, List.set_cons_succ]
      refine Drawn.ps 15 (some 115) rfl rfl (by assumption) ?_
      try simp only [Act.put, List.setIfInBounds_toArray, List.set_cons_zero, List.set_cons_succ]
      refine Drawn.ps 16 (some 116) rfl rfl (by assumption) ?_
      try simp only [Act.put, List.setIfInBounds_toArray, List.set_cons_zero, List.set_cons_succ]
      refine Drawn.tk 17 (some 117) rfl rfl (by assumption) ?_
      try simp only [Act.put, List.setIfInBounds_toArray, List.set_cons_zero, List.set_cons_succ]
      refine Drawn.tk 18 (some 6) rfl rfl (by assumption) ?_
      try simp only [Act.put, List.setIfInBounds_toArray, List.set_cons_zero, List.set_cons_succ]
      refine wpAnyH_done (by kernel_rfl) ?_ _
      go_wp2_with fail
      go_ret
      refine ⟨ret_bool ?_, hbw.drew⟩
      go_tidy
      rw [e1.out]
    · have hr := hp.out
      have hr1 := hp.out
      rw [within_rng] at hr1
      simp only [Int.sub_add_cancel] at hr1
      have hr2 : 0 ≤ a ∧ a < f.classes.length := by simpa [Form.rng] using hr1
      obtain ⟨k, rfl⟩ := Int.eq_ofNat_of_zero_le hr2.1
      have hk : k < f.classes.length := by omega
      obtain ⟨b0, o0, rfl, hb0, he⟩ := cel k hk
      have hnf : Hid (Form.nf f.classes (k : Int) = (f.classes[k]).fields.length) := by
        show _ = _
        rw [Form.nf, Int.toNat_natCast, Hier.at_eq hk]
      obtain ⟨x, hx⟩ := at_of hk
      rw [hx.out] at he hnf
      obtain ⟨_, _, fv, g3, fa, fcap, rfl, flc, fcc, _⟩ := he
      have z4 := kept hbw hb0 g3
      have fcI : (x.fields.length : Int) ≤ 9223372036854775807 := by omega
      have hk0 : (0 : Int) ≤ (k : Int) ∧ (k : Int) < f.classes.length := ⟨by omega, by omega⟩
      have e1 : Hid (Form.sins f.classes f.methods.length m.code.length m.locals ⟨op, (k : Int), b, c, n, args⟩ = within b 0 ((x.fields.length : Int) - 1)) := by
        show _ = _
        rw [within_rng]
        simp only [Int.sub_add_cancel]
        have hnf2 := hnf.out
        simp_all [Form.sins, Form.sa, Form.sb, Form.sn]
        done
      clear cel
      have hr3 := hr2.2
      refine wp_region_held_drew (S := fun w' => w'.cell? ⟨w.heap.size + 1 + 1, 1, none⟩ = some (.int .i64 (k : Int)) ∧ w'.cell? ⟨w.heap.size + 1 + 1, 2, none⟩ = some (.int .i64 b) ∧ w'.cell? ⟨w.heap.size, 0, none⟩ = some (.slice (some ⟨b0, o0, none⟩) f.classes.length ccap) ∧ w'.cell? ⟨b0, o0 + k * 2 + 1, none⟩ = some (.slice fa x.fields.length fcap)) (by kernel_rfl) (by (try dsimp only); first | exact ⟨z1, z2, z3, z4⟩ | go_keep) (fun hHeld => ?_)
      refine Drawn.tk 0 (some 100) rfl rfl (by assumption) ?_
      try simp only [Act.put, List.setIfInBounds_toArray, List.set_cons_zero, List.set_cons_succ]
      refine Drawn.tk 1 (some 101) rfl rfl (by assumption) ?_
      try simp only [Act.put, List.setIfInBounds_toArray, List.set_cons_zero, List.set_cons_succ]
      refine Drawn.tk 2 (some 102) rfl rfl (by assumption) ?_
      try simp only [Act.put, List.setIfInBounds_toArray, List.set_cons_zero, List.set_cons_succ]
      refine wpAnyH_ready (rs := [3]) (by kernel_rfl) (by simp) ?_
      refine AllReadyH.cons rfl (fun K hK => ?_) AllReadyH.nil
      go_simp
      go_at_call 48
      refine (wiV _ _ _ _ _ hp.out).mono ?_
      rintro e w2 ⟨rfl, rfl⟩
      go_wp2_with fail
      refine hK.out _ _ (by (try dsimp only); exact ⟨z1, z2, z3, z4⟩) (fun hHeld => ?_)
      clear hK K
      try simp only [Act.put, List.setIfInBounds_toArray, List.set_cons_zero, List.set_cons_succ]
      refine Drawn.tk 4 (some 104) rfl rfl (by assumption) ?_
      try simp only [Act.put, List.setIfInBounds_toArray, List.set_cons_zero, List.set_cons_succ]
      refine Drawn.tk 5 (some 105) rfl rfl (by assumption) ?_
      try simp only [Act.put, List.setIfInBounds_toArray, List.set_cons_zero, List.set_cons_succ]
      refine Drawn.tk 6 (some 106) rfl rfl (by assumption) ?_
      try simp only [Act.put, List.setIfInBounds_toArray, List.set_cons_zero, List.set_cons_succ]
      refine Drawn.tk 7 (some 107) rfl rfl (by assumption) ?_
      try simp only [Act.put, List.setIfInBounds_toArray, List.set_cons_zero, List.set_cons_succ]
      refine Drawn.tk 8 (some 108) rfl rfl (by assumption) ?_
      try simp only [Act.put, List.setIfInBounds_toArray, List.set_cons_zero, List.set_cons_succ]
      refine Drawn.tk 9 (some 109) rfl rfl (by assumption) ?_
      try simp only [Act.put, List.setIfInBounds_toArray, List.set_cons_zero, List.set_cons_succ]
      refine Drawn.tk 10 (some 110) rfl rfl (by assumption) ?_
      try simp only [Act.put, List.setIfInBounds_toArray, List.set_cons_zero, List.set_cons_succ]
      refine Drawn.tk 11 (some 111) rfl rfl (by assumption) ?_
      try simp only [Act.put, List.setIfInBounds_toArray, List.set_cons_zero, List.set_cons_succ]
      refine Drawn.tk 12 (some 112) rfl rfl (by assumption) ?_
      try simp only [Act.put, List.setIfInBounds_toArray, List.set_cons_zero, List.set_cons_succ]
      refine Drawn.tk 13 (some 113) rfl rfl (by assumption) ?_
      try simp only [Act.put, List.setIfInBounds_toArray, List.set_cons_zero, List.set_cons_succ]
      refine Drawn.tk 14 (some 114) rfl rfl (by assumption) ?_
      try simp only [Act.put, List.setIfInBounds_toArray, List.set_cons_zero, List.set_cons_succ]
      refine Drawn.tk 15 (some 115) rfl rfl (by assumption) ?_
      try simp only [Act.put, List.setIfInBounds_toArray, List.set_cons_zero, List.set_cons_succ]
      refine wpAnyH_ready (rs := [16]) (by kernel_rfl) (by simp) ?_
      refine AllReadyH.cons rfl (fun K hK => ?_) AllReadyH.nil
      go_simp
      go_at_call 48
      refine (wi _ _ _ _).mono ?_
      rintro e w3 ⟨rfl, rfl⟩
      go_wp2_with fail
      refine hK.out _ _ (by (try dsimp only); exact ⟨z1, z2, z3, z4⟩) (fun hHeld => ?_)
      clear hK K
      try simp only [Act.put, List.setIfInBounds_toArray, List.set_cons_zero, List.set_cons_succ]
      refine Drawn.tk 17 (some 117) rfl rfl (by assumption) ?_
      try simp only [Act.put, List.setIfInBounds_toArray, List.set_cons_zero, List.set_cons_succ]
      refine Drawn.tk 18 (some 6) rfl rfl (by assumption) ?_
      try simp only [Act.put, List.setIfInBounds_toArray, List.set_cons_zero, List.set_cons_succ]
      refine wpAnyH_done (by kernel_rfl) ?_ _
      go_wp2_with fail
      go_ret
      refine ⟨ret_bool ?_, hbw.drew⟩
      go_tidy
      rw [e1.out, Num.wrap_i64, wrap64_id (show Ok ((x.fields.length : Int) - 1) from ⟨by omega, by omega⟩)]
  · refine name_world (fun W => Below w.heap.size w W ∧ W.cell? ⟨w.heap.size + 1 + 1, 1, none⟩ = some (.int .i64 a) ∧ W.cell? ⟨w.heap.size + 1 + 1, 2, none⟩ = some (.int .i64 b) ∧ W.cell? ⟨w.heap.size, 0, none⟩ = some (.slice ca f.classes.length ccap)) ?_ ?_
    · refine ⟨(by repeat' (first | with_reducible exact Below.refl _ _ | with_reducible assumption | exact Nat.le_refl _ | with_reducible refine Go.Proofs.Ytncmhenfgbcihaa.Rd.below_drewN ?_ _ | with_reducible refine Below.alloc ?_ ?_ _ | with_reducible refine Below.setCell ?_ ?_ _ | with_reducible refine Below.drew ?_ | omega | (simp; omega) | (simp; done))), ?_, ?_, ?_⟩
      all_goals go_simp
    rintro W ⟨hbw, z1, z2, z3⟩
    obtain ⟨p, hp⟩ : ∃ p, Hid (within a 0 ((f.classes.length : Int) - 1) = p) := ⟨_, rfl⟩
    cases p
    · have hr := hp.out
      have hr1 := hp.out
      rw [within_rng] at hr1
      simp only [Int.sub_add_cancel] at hr1
      have e1 : Hid (Form.sins f.classes f.methods.length m.code.length m.locals ⟨op, a, b, c, n, args⟩ = false) := by
        show _ = _
        simp_all [Form.sins, Form.sa, Form.sb, Form.sn]
      refine wp_region_held_drew (S := fun w' => w'.cell? ⟨w.heap.size + 1 + 1, 1, none⟩ = some (.int .i64 a) ∧ w'.cell? ⟨w.heap.size + 1 + 1, 2, none⟩ = some (.int .i64 b)) (by kernel_rfl) (by (try dsimp only); first | exact ⟨z1, z2⟩ | go_keep) (fun hHeld => ?_)
      refine Drawn.tk 0 (some 100) rfl rfl (by assumption) ?_
      try simp only [Act.put, List.setIfInBounds_toArray, List.set_cons_zero, List.set_cons_succ]
      refine Drawn.tk 1 (some 101) rfl rfl (by assumption) ?_
      try simp only [Act.put, List.setIfInBounds_toArray, List.set_cons_zero, List.set_cons_succ]
      refine Drawn.tk 2 (some 102) rfl rfl (by assumption) ?_
      try simp only [Act.put, List.setIfInBounds_toArray, List.set_cons_zero, List.set_cons_succ]
      refine wpAnyH_ready (rs := [3]) (by kernel_rfl) (by simp) ?_
      refine AllReadyH.cons rfl (fun K hK => ?_) AllReadyH.nil
      go_simp
      go_at_call 48
      refine (wiV _ _ _ _ _ hp.out).mono ?_
      rintro e w2 ⟨rfl, rfl⟩
      go_wp2_with fail
      refine hK.out _ _ (by (try dsimp only); exact ⟨z1, z2⟩) (fun hHeld => ?_)
      clear hK K
      try simp only [Act.put, List.setIfInBounds_toArray, List.set_cons_zero, List.set_cons_succ]
      refine Drawn.tk 4 (some 104) rfl rfl (by assumption) ?_
      try simp only [Act.put, List.setIfInBounds_toArray, List.set_cons_zero, List.set_cons_succ]
      refine Drawn.ps 5 (some 105) rfl rfl (by assumption) ?_
      try simp only [Act.put, List.setIfInBounds_toArray, List.set_cons_zero, List.set_cons_succ]
      refine Drawn.ps 6 (some 106) rfl rfl (by assumption) ?_
      try simp only [Act.put, List.setIfInBounds_toArray, List.set_cons_zero, List.set_cons_succ]
      refine Drawn.ps 7 (some 107) rfl rfl (by assumption) ?_
      try simp only [Act.put, List.setIfInBounds_toArray, List.set_cons_zero, List.set_cons_succ]
      refine Drawn.ps 8 (some 108) rfl rfl (by assumption) ?_
      try simp only [Act.put, List.setIfInBounds_toArray, List.set_cons_zero, List.set_cons_succ]
      refine Drawn.ps 9 (some 109) rfl rfl (by assumption) ?_
      try simp only [Act.put, List.setIfInBounds_toArray, List.set_cons_zero, List.set_cons_succ]
      refine Drawn.ps 10 (some 110) rfl rfl (by assumption) ?_
      try simp only [Act.put, List.setIfInBounds_toArray, List.set_cons_zero, List.set_cons_succ]
      refine Drawn.ps 11 (some 111) rfl rfl (by assumption) ?_
      try simp only [Act.put, List.setIfInBounds_toArray, List.set_cons_zero, List.set_cons_succ]
      refine Drawn.ps 12 (some 112) rfl rfl (by assumption) ?_
      try simp only [Act.put, List.setIfInBounds_toArray, List.set_cons_zero, List.set_cons_succ]
      refine Drawn.ps 13 (some 113) rfl rfl (by assumption) ?_
      try simp only [Act.put, List.setIfInBounds_toArray, List.set_cons_zero, List.set_cons_succ]
      refine Drawn.ps 14 (some 114) rfl rfl (by assumption) ?_
      try simp only [Act.put, List.setIfInBounds_toArray, List.set_cons_zero, List.set_cons_succ]
      refine Drawn.ps 15 (some 115) rfl rfl (by assumption) ?_
      try simp only [Act.put, List.setIfInBounds_toArray, List.set_cons_zero, List.set_cons_succ]
      refine Drawn.ps 16 (some 116) rfl rfl (by assumption) ?_
      try simp only [Act.put, List.setIfInBounds_toArray, List.set_cons_zero, List.set_cons_succ]
      refine Drawn.tk 17 (some 117) rfl rfl (by assumption) ?_
      try simp only [Act.put, List.setIfInBounds_toArray, List.set_cons_zero, List.set_cons_succ]
      refine Drawn.tk 18 (some 6) rfl rfl (by assumption) ?_
      try simp only [Act.put, List.setIfInBounds_toArray, List.set_cons_zero, List.set_cons_succ]
      refine wpAnyH_done (by kernel_rfl) ?_ _
      go_wp2_with fail
      go_ret
      refine ⟨ret_bool ?_, hbw.drew⟩
      go_tidy
      rw [e1.out]
    · have hr := hp.out
      have hr1 := hp.out
      rw [within_rng] at hr1
      simp only [Int.sub_add_cancel] at hr1
      have hr2 : 0 ≤ a ∧ a < f.classes.length := by simpa [Form.rng] using hr1
      obtain ⟨k, rfl⟩ := Int.eq_ofNat_of_zero_le hr2.1
      have hk : k < f.classes.length := by omega
      obtain ⟨b0, o0, rfl, hb0, he⟩ := cel k hk
      have hnf : Hid (Form.nf f.classes (k : Int) = (f.classes[k]).fields.length) := by
        show _ = _
        rw [Form.nf, Int.toNat_natCast, Hier.at_eq hk]
      obtain ⟨x, hx⟩ := at_of hk
      rw [hx.out] at he hnf
      obtain ⟨_, _, fv, g3, fa, fcap, rfl, flc, fcc, _⟩ := he
      have z4 := kept hbw hb0 g3
      have fcI : (x.fields.length : Int) ≤ 9223372036854775807 := by omega
      have hk0 : (0 : Int) ≤ (k : Int) ∧ (k : Int) < f.classes.length := ⟨by omega, by omega⟩
      have e1 : Hid (Form.sins f.classes f.methods.length m.code.length m.locals ⟨op, (k : Int), b, c, n, args⟩ = within b 0 ((x.fields.length : Int) - 1)) := by
        show _ = _
        rw [within_rng]
        simp only [Int.sub_add_cancel]
        have hnf2 := hnf.out
        simp_all [Form.sins, Form.sa, Form.sb, Form.sn]
        done
      clear cel
      have hr3 := hr2.2
      refine wp_region_held_drew (S := fun w' => w'.cell? ⟨w.heap.size + 1 + 1, 1, none⟩ = some (.int .i64 (k : Int)) ∧ w'.cell? ⟨w.heap.size + 1 + 1, 2, none⟩ = some (.int .i64 b) ∧ w'.cell? ⟨w.heap.size, 0, none⟩ = some (.slice (some ⟨b0, o0, none⟩) f.classes.length ccap) ∧ w'.cell? ⟨b0, o0 + k * 2 + 1, none⟩ = some (.slice fa x.fields.length fcap)) (by kernel_rfl) (by (try dsimp only); first | exact ⟨z1, z2, z3, z4⟩ | go_keep) (fun hHeld => ?_)
      refine Drawn.tk 0 (some 100) rfl rfl (by assumption) ?_
      try simp only [Act.put, List.setIfInBounds_toArray, List.set_cons_zero, List.set_cons_succ]
      refine Drawn.tk 1 (some 101) rfl rfl (by assumption) ?_
      try simp only [Act.put, List.setIfInBounds_toArray, List.set_cons_zero, List.set_cons_succ]
      refine Drawn.tk 2 (some 102) rfl rfl (by assumption) ?_
      try simp only [Act.put, List.setIfInBounds_toArray, List.set_cons_zero, List.set_cons_succ]
      refine wpAnyH_ready (rs := [3]) (by kernel_rfl) (by simp) ?_
      refine AllReadyH.cons rfl (fun K hK => ?_) AllReadyH.nil
      go_simp
      go_at_call 48
      refine (wiV _ _ _ _ _ hp.out).mono ?_
      rintro e w2 ⟨rfl, rfl⟩
      go_wp2_with fail
      refine hK.out _ _ (by (try dsimp only); exact ⟨z1, z2, z3, z4⟩) (fun hHeld => ?_)
      clear hK K
      try simp only [Act.put, List.setIfInBounds_toArray, List.set_cons_zero, List.set_cons_succ]
      refine Drawn.tk 4 (some 104) rfl rfl (by assumption) ?_
      try simp only [Act.put, List.setIfInBounds_toArray, List.set_cons_zero, List.set_cons_succ]
      refine Drawn.tk 5 (some 105) rfl rfl (by assumption) ?_
      try simp only [Act.put, List.setIfInBounds_toArray, List.set_cons_zero, List.set_cons_succ]
      refine Drawn.tk 6 (some 106) rfl rfl (by assumption) ?_
      try simp only [Act.put, List.setIfInBounds_toArray, List.set_cons_zero, List.set_cons_succ]
      refine Drawn.tk 7 (some 107) rfl rfl (by assumption) ?_
      try simp only [Act.put, List.setIfInBounds_toArray, List.set_cons_zero, List.set_cons_succ]
      refine Drawn.tk 8 (some 108) rfl rfl (by assumption) ?_
      try simp only [Act.put, List.setIfInBounds_toArray, List.set_cons_zero, List.set_cons_succ]
      refine Drawn.tk 9 (some 109) rfl rfl (by assumption) ?_
      try simp only [Act.put, List.setIfInBounds_toArray, List.set_cons_zero, List.set_cons_succ]
      refine Drawn.tk 10 (some 110) rfl rfl (by assumption) ?_
      try simp only [Act.put, List.setIfInBounds_toArray, List.set_cons_zero, List.set_cons_succ]
      refine Drawn.tk 11 (some 111) rfl rfl (by assumption) ?_
      try simp only [Act.put, List.setIfInBounds_toArray, List.set_cons_zero, List.set_cons_succ]
      refine Drawn.tk 12 (some 112) rfl rfl (by assumption) ?_
      try simp only [Act.put, List.setIfInBounds_toArray, List.set_cons_zero, List.set_cons_succ]
      refine Drawn.tk 13 (some 113) rfl rfl (by assumption) ?_
      try simp only [Act.put, List.setIfInBounds_toArray, List.set_cons_zero, List.set_cons_succ]
      refine Drawn.tk 14 (some 114) rfl rfl (by assumption) ?_
      try simp only [Act.put, List.setIfInBounds_toArray, List.set_cons_zero, List.set_cons_succ]
      refine Drawn.tk 15 (some 115) rfl rfl (by assumption) ?_
      try simp only [Act.put, List.setIfInBounds_toArray, List.set_cons_zero, List.set_cons_succ]
      refine wpAnyH_ready (rs := [16]) (by kernel_rfl) (by simp) ?_
      refine AllReadyH.cons rfl (fun K hK => ?_) AllReadyH.nil
      go_simp
      go_at_call 48
      refine (wi _ _ _ _).mono ?_
      rintro e w3 ⟨rfl, rfl⟩
      go_wp2_with fail
      refine hK.out _ _ (by (try dsimp only); exact ⟨z1, z2, z3, z4⟩) (fun hHeld => ?_)
      clear hK K
      try simp only [Act.put, List.setIfInBounds_toArray, List.set_cons_zero, List.set_cons_succ]
      refine Drawn.tk 17 (some 117) rfl rfl (by assumption) ?_
      try simp only [Act.put, List.setIfInBounds_toArray, List.set_cons_zero, List.set_cons_succ]
      refine Drawn.tk 18 (some 6) rfl rfl (by assumption) ?_
      try simp only [Act.put, List.setIfInBounds_toArray, List.set_cons_zero, List.set_cons_succ]
      refine wpAnyH_done (by kernel_rfl) ?_ _
      go_wp2_with fail
      go_ret
      refine ⟨ret_bool ?_, hbw.drew⟩
      go_tidy
      rw [e1.out, Num.wrap_i64, wrap64_id (show Ok ((x.fields.length : Int) - 1) from ⟨by omega, by omega⟩)]
end FormR
end Go.Proofs.Ytncmhenfgbcihaa
