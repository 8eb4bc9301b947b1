/- The walk through crosswalkref6.ins. -/
import Derived.Test.YtncmhenfgbcihaaRefH
import Derived.Test.YtncmhenfgbcihaaDrawn
namespace Go.Proofs.Ytncmhenfgbcihaa
open Go.RowKit
set_option linter.unusedSimpArgs false
set_option linter.unusedVariables false
namespace RefG
open Num Rd D HierW FormW FormR

set_option maxRecDepth 100000 in
set_option maxHeartbeats 16000000 in
theorem insE (f : Fi) (m : Me) (i : Ins) (vf vm vi : Value) (w : World) (hf : VFi w w.heap.size vf f) (hm : VMe w w.heap.size vm m) (hi : VIns w w.heap.size vi i) (hr : 0 ≤ m.regs ∧ m.regs ≤ 90) (hop : i.op = 15) :
    Calls Try.prog 56 #[vf, vm, vi] w fun e w' => e = .returned (.bool (Rform.ins f m i)) ∧ Below w.heap.size w w' := by
  have hf0 := Lib.hid hf
  have hm0 := Lib.hid hm
  have hi0 := Lib.hid hi
  obtain ⟨vc, vme, rfl, ⟨ca, ccap, rfl, clc, ccc, cel⟩, ⟨ma, mcap, rfl, mlc, mcc, mel⟩⟩ := hf
  obtain ⟨vp, vcd, vh, rfl, ⟨okr, _, _, _, _⟩, _, ⟨da, dcap, rfl, dlc, dcc, _⟩, _⟩ := hm
  obtain ⟨va, rfl, ⟨oop, oa, ob, oc, on⟩, ⟨aa, acap, rfl, alc, acc, ael⟩⟩ := hi
  have oki := Lib.hid (show ∀ j, Ok (pick i.a i.b i.c j) from fun j => pick_ok j oa ob oc)
  have hnone := Lib.hid (Rform.ins_none (f := f) (m := m) (i := i))
  have hfokp := Lib.hid (fun k0 k1 k2 j h1 h2 => fok_pick (f := f) (m := m) (i := i) (k0 := k0) (k1 := k1) (k2 := k2) (j := j) h1 h2)
  have hop2 := Lib.hid hop
  clear hop
  obtain ⟨op, a, b, c, n, args⟩ := i
  simp only at *
  unfold Ok at oop oa ob oc on
  obtain ⟨hr1, hr2⟩ := hr
  have hr := Lib.hid (And.intro hr1 hr2)
  have cel2 := Lib.hid cel
  have mel2 := Lib.hid mel
  have ael2 := Lib.hid ael
  clear cel mel ael
  go_enter Try.func56, Try.ntmps56
  go_wp2_with fail
  refine (namedB w _ op ?_).mono ?_
  · exact (by repeat' (first | with_reducible exact Below.refl _ _ | with_reducible assumption | exact Nat.le_refl _ | with_reducible refine Go.Proofs.Ytncmhenfgbcihaa.Rd.below_drewN ?_ _ | with_reducible refine Below.alloc ?_ ?_ _ | with_reducible refine Below.setCell ?_ ?_ _ | with_reducible refine Below.drew ?_ | omega | (simp; omega) | (simp; done)))
  rintro e w1 ⟨hw1, hb1, ⟨hk, rfl⟩ | ⟨k0, k1, k2, kn, hk, rfl, hkn, e0, e1, e2⟩⟩
  · have hX := Lib.hid (hnone.out hk)
    clear hop2
    clear hk
    go_wp2_with fail
    go_ret
    exact ⟨ret_bool hX.out.symm, hw1⟩
  have hkk := Lib.hid hk
  clear hk
  simp at hkn
  have f0 : w1.cell? ⟨w.heap.size, 0, none⟩ = some (.slice ca f.classes.length ccap) := kept hb1 (by simp <;> omega) (by go_simp)
  have f1 : w1.cell? ⟨w.heap.size, 1, none⟩ = some (.slice ma f.methods.length mcap) := kept hb1 (by simp <;> omega) (by go_simp)
  have m0 : w1.cell? ⟨w.heap.size + 1, 0, none⟩ = some vp := kept hb1 (by simp <;> omega) (by go_simp)
  have m1 : w1.cell? ⟨w.heap.size + 1, 1, none⟩ = some (.int .i64 m.ret.kind) := kept hb1 (by simp <;> omega) (by go_simp)
  have m2 : w1.cell? ⟨w.heap.size + 1, 2, none⟩ = some (.int .i64 m.ret.cls) := kept hb1 (by simp <;> omega) (by go_simp)
  have m3 : w1.cell? ⟨w.heap.size + 1, 3, none⟩ = some (.int .i64 m.stack) := kept hb1 (by simp <;> omega) (by go_simp)
  have m4 : w1.cell? ⟨w.heap.size + 1, 4, none⟩ = some (.int .i64 m.locals) := kept hb1 (by simp <;> omega) (by go_simp)
  have m5 : w1.cell? ⟨w.heap.size + 1, 5, none⟩ = some (.int .i64 m.regs) := kept hb1 (by simp <;> omega) (by go_simp)
  have m6 : w1.cell? ⟨w.heap.size + 1, 6, none⟩ = some (.slice da m.code.length dcap) := kept hb1 (by simp <;> omega) (by go_simp)
  have m7 : w1.cell? ⟨w.heap.size + 1, 7, none⟩ = some vh := kept hb1 (by simp <;> omega) (by go_simp)
  have x0 : w1.cell? ⟨w.heap.size + 1 + 1, 0, none⟩ = some (.int .i64 op) := kept hb1 (by simp <;> omega) (by go_simp)
  have x1 : w1.cell? ⟨w.heap.size + 1 + 1, 1, none⟩ = some (.int .i64 a) := kept hb1 (by simp <;> omega) (by go_simp)
  have x2 : w1.cell? ⟨w.heap.size + 1 + 1, 2, none⟩ = some (.int .i64 b) := kept hb1 (by simp <;> omega) (by go_simp)
  have x3 : w1.cell? ⟨w.heap.size + 1 + 1, 3, none⟩ = some (.int .i64 c) := kept hb1 (by simp <;> omega) (by go_simp)
  have x4 : w1.cell? ⟨w.heap.size + 1 + 1, 4, none⟩ = some (.int .i64 n) := kept hb1 (by simp <;> omega) (by go_simp)
  have x5 : w1.cell? ⟨w.heap.size + 1 + 1, 5, none⟩ = some (.slice aa args.length acap) := kept hb1 (by simp <;> omega) (by go_simp)
  have hws : w.heap.size + 3 ≤ w1.heap.size := by have := hb1.size; simp at this; omega
  have hkl := lt_cell e0
  clear hb1
  go_wp2_with fail
  refine name_world (fun W => Below w1.heap.size w1 W ∧ W.heap.size = w1.heap.size + 1 ∧ W.cell? ⟨w1.heap.size, 0, none⟩ = some (.int .i64 a) ∧ W.cell? ⟨w1.heap.size, 1, none⟩ = some (.int .i64 b) ∧ W.cell? ⟨w1.heap.size, 2, none⟩ = some (.int .i64 c)) ?_ ?_
  · refine ⟨(by repeat' (first | with_reducible exact Below.refl _ _ | with_reducible assumption | exact Nat.le_refl _ | with_reducible refine Go.Proofs.Ytncmhenfgbcihaa.Rd.below_drewN ?_ _ | with_reducible refine Below.alloc ?_ ?_ _ | with_reducible refine Below.setCell ?_ ?_ _ | with_reducible refine Below.drew ?_ | omega | (simp; omega) | (simp; done))), ?_, ?_, ?_, ?_⟩
    all_goals go_simp
  rintro W ⟨hbW, hWs, a0, a1, a2⟩
  have hWs2 := Lib.hid hWs
  have hWs3 : w1.heap.size < W.heap.size := by omega
  clear hWs
  go_loopw [10] (fun i wr => ∃ j : Nat, j ≤ 3 ∧ i = .int .i64 j ∧ Below W.heap.size W wr ∧ Hid (∀ t, t < j → Rform.fok m.regs (pick k0 k1 k2 t) (pick a b c t) = true)) (fun i _ => 3 - (intOf i).toNat)
  case atStart => exact ⟨0, by omega, rfl, Below.refl _ _, fun t h => absurd h (by omega)⟩
  case round =>
    obtain ⟨j, hj, rfl, hq, hall⟩ := hrel
    have hqs := hq.size
    have hwr : Below w.heap.size w wr := hw1.trans ((hbW.trans (hq.mono (by omega))).mono (by omega))
    by_cases hlt : j < 3
    · have cK := kept hq (by omega) (kept hbW hkl (cell_pick hlt e0 e1 e2))
      have cF := kept hq (by omega) (cell_pick hlt a0 a1 a2)
      have hno := Lib.hid (fun h => hfokp.out k0 k1 k2 j hkk.out h)
      obtain ⟨kx, hkx⟩ : ∃ kx, Hid (pick k0 k1 k2 j = kx) := ⟨_, rfl⟩
      obtain ⟨F, hF⟩ : ∃ F, Hid (pick a b c j = F) := ⟨_, rfl⟩
      have hyes : Hid (Rform.fok m.regs kx F = true → ∀ t, t < j + 1 → Rform.fok m.regs (pick k0 k1 k2 t) (pick a b c t) = true) := by
        intro h t ht
        by_cases e : t = j
        · subst e; rw [hkx.out, hF.out]; exact h
        · exact hall.out t (by omega)
      rw [hkx.out] at cK hno
      rw [hF.out] at cF hno
      have hOF : Ok F := by rw [← hF.out]; exact oki.out j
      have hI0 : (0 : Int) ≤ (j : Int) ∧ (j : Int) < 3 := ⟨by omega, by omega⟩
      have hI1 : (j : Int) < 3 := by omega
      have d0 := kept hq (by omega) (kept hbW (by omega) m0)
      have d1 := kept hq (by omega) (kept hbW (by omega) m1)
      have d2 := kept hq (by omega) (kept hbW (by omega) m2)
      have d3 := kept hq (by omega) (kept hbW (by omega) m3)
      have d4 := kept hq (by omega) (kept hbW (by omega) m4)
      have d5 := kept hq (by omega) (kept hbW (by omega) m5)
      have d6 := kept hq (by omega) (kept hbW (by omega) m6)
      have d7 := kept hq (by omega) (kept hbW (by omega) m7)
      clear e0 e1 e2 a0 a1 a2 f0 f1 m0 m1 m2 m3 m4 m5 m6 m7 x0 x1 x2 x3 x4 x5
      by_cases z0 : kx = 0
      · subst z0
        by_cases z1 : F = 0
        · subst z1
          have hfk : Hid (Rform.fok m.regs 0 0 = true) := by show _ = _; simp [Rform.fok]
          go_wp2_with fail
          refine wp_region_held_drew (S := fun w' => w'.cell? ⟨kn, j, none⟩ = some (.int .i64 0) ∧ w'.cell? ⟨w1.heap.size, j, none⟩ = some (.int .i64 0)) (by kernel_rfl) (by (try dsimp only); first | exact ⟨cK, cF⟩ | go_keep) (fun hHeld => ?_)
          refine Drawn.tk 0 (some 33) rfl rfl (by assumption) ?_
          try simp only [Act.put, List.setIfInBounds_toArray, List.set_cons_zero, List.set_cons_succ]
          refine Drawn.tk 1 (some 34) rfl rfl (by assumption) ?_
          try simp only [Act.put, List.setIfInBounds_toArray, List.set_cons_zero, List.set_cons_succ]
          refine Drawn.tk 2 (some 35) rfl rfl (by assumption) ?_
          try simp only [Act.put, List.setIfInBounds_toArray, List.set_cons_zero, List.set_cons_succ]
          refine Drawn.tk 3 (some 36) rfl rfl (by assumption) ?_
          try simp only [Act.put, List.setIfInBounds_toArray, List.set_cons_zero, List.set_cons_succ]
          refine Drawn.tk 4 (some 37) rfl rfl (by assumption) ?_
          try simp only [Act.put, List.setIfInBounds_toArray, List.set_cons_zero, List.set_cons_succ]
          refine Drawn.tk 5 (some 38) rfl rfl (by assumption) ?_
          try simp only [Act.put, List.setIfInBounds_toArray, List.set_cons_zero, List.set_cons_succ]
          refine Drawn.tk 6 (some 39) rfl rfl (by assumption) ?_
          try simp only [Act.put, List.setIfInBounds_toArray, List.set_cons_zero, List.set_cons_succ]
          refine Drawn.tk 7 (some 40) rfl rfl (by assumption) ?_
          try simp only [Act.put, List.setIfInBounds_toArray, List.set_cons_zero, List.set_cons_succ]
          refine Drawn.tk 8 (some 41) rfl rfl (by assumption) ?_
          try simp only [Act.put, List.setIfInBounds_toArray, List.set_cons_zero, List.set_cons_succ]
          refine Drawn.tk 9 (some 42) rfl rfl (by assumption) ?_
          try simp only [Act.put, List.setIfInBounds_toArray, List.set_cons_zero, List.set_cons_succ]
          refine Drawn.tk 10 (some 43) rfl rfl (by assumption) ?_
          try simp only [Act.put, List.setIfInBounds_toArray, List.set_cons_zero, List.set_cons_succ]
          refine Drawn.tk 11 (some 44) rfl rfl (by assumption) ?_
          try simp only [Act.put, List.setIfInBounds_toArray, List.set_cons_zero, List.set_cons_succ]
          refine Drawn.tk 12 (some 45) rfl rfl (by assumption) ?_
          try simp only [Act.put, List.setIfInBounds_toArray, List.set_cons_zero, List.set_cons_succ]
          refine Drawn.tk 13 (some 46) rfl rfl (by assumption) ?_
          try simp only [Act.put, List.setIfInBounds_toArray, List.set_cons_zero, List.set_cons_succ]
          refine Drawn.tk 14 (some 47) rfl rfl (by assumption) ?_
          try simp only [Act.put, List.setIfInBounds_toArray, List.set_cons_zero, List.set_cons_succ]
          refine Drawn.tk 15 (some 48) rfl rfl (by assumption) ?_
          try simp only [Act.put, List.setIfInBounds_toArray, List.set_cons_zero, List.set_cons_succ]
          refine Drawn.tk 16 (some 49) rfl rfl (by assumption) ?_
          try simp only [Act.put, List.setIfInBounds_toArray, List.set_cons_zero, List.set_cons_succ]
          refine Drawn.tk 17 (some 50) rfl rfl (by assumption) ?_
          try simp only [Act.put, List.setIfInBounds_toArray, List.set_cons_zero, List.set_cons_succ]
          refine Drawn.tk 18 (some 51) rfl rfl (by assumption) ?_
          try simp only [Act.put, List.setIfInBounds_toArray, List.set_cons_zero, List.set_cons_succ]
          refine Drawn.ps 19 (some 52) rfl rfl (by assumption) ?_
          try simp only [Act.put, List.setIfInBounds_toArray, List.set_cons_zero, List.set_cons_succ]
          refine Drawn.ps 20 (some 53) rfl rfl (by assumption) ?_
          try simp only [Act.put, List.setIfInBounds_toArray, List.set_cons_zero, List.set_cons_succ]
          refine Drawn.ps 21 (some 54) rfl rfl (by assumption) ?_
          try simp only [Act.put, List.setIfInBounds_toArray, List.set_cons_zero, List.set_cons_succ]
          refine Drawn.ps 22 (some 55) rfl rfl (by assumption) ?_
          try simp only [Act.put, List.setIfInBounds_toArray, List.set_cons_zero, List.set_cons_succ]
          refine Drawn.ps 23 (some 56) rfl rfl (by assumption) ?_
          try simp only [Act.put, List.setIfInBounds_toArray, List.set_cons_zero, List.set_cons_succ]
          refine Drawn.ps 24 (some 57) rfl rfl (by assumption) ?_
          try simp only [Act.put, List.setIfInBounds_toArray, List.set_cons_zero, List.set_cons_succ]
          refine Drawn.ps 25 (some 58) rfl rfl (by assumption) ?_
          try simp only [Act.put, List.setIfInBounds_toArray, List.set_cons_zero, List.set_cons_succ]
          refine Drawn.ps 26 (some 59) rfl rfl (by assumption) ?_
          try simp only [Act.put, List.setIfInBounds_toArray, List.set_cons_zero, List.set_cons_succ]
          refine Drawn.ps 27 (some 60) rfl rfl (by assumption) ?_
          try simp only [Act.put, List.setIfInBounds_toArray, List.set_cons_zero, List.set_cons_succ]
          refine Drawn.ps 28 (some 61) rfl rfl (by assumption) ?_
          try simp only [Act.put, List.setIfInBounds_toArray, List.set_cons_zero, List.set_cons_succ]
          refine Drawn.ps 29 (some 62) rfl rfl (by assumption) ?_
          try simp only [Act.put, List.setIfInBounds_toArray, List.set_cons_zero, List.set_cons_succ]
          refine Drawn.tk 30 (some 63) rfl rfl (by assumption) ?_
          try simp only [Act.put, List.setIfInBounds_toArray, List.set_cons_zero, List.set_cons_succ]
          refine Drawn.tk 31 (some 64) rfl rfl (by assumption) ?_
          try simp only [Act.put, List.setIfInBounds_toArray, List.set_cons_zero, List.set_cons_succ]
          refine wpAnyH_done (by kernel_rfl) ?_ _
          go_wp2_with fail
          go_roundw
          case rel => exact ⟨j + 1, by omega, by go_num, hq.trans (Below.drew (Below.refl _ _)), hyes.out hfk.out⟩
          case measure => simp [intOf]; omega
        · have hfk : Hid (Rform.fok m.regs 0 F = false) := by show _ = _; simp [Rform.fok, z1]
          have z1' : (F != 0) = true := by simpa using z1
          clear z1
          go_wp2_with fail
          refine wp_region_held_drew (S := fun w' => w'.cell? ⟨kn, j, none⟩ = some (.int .i64 0) ∧ w'.cell? ⟨w1.heap.size, j, none⟩ = some (.int .i64 F)) (by kernel_rfl) (by (try dsimp only); first | exact ⟨cK, cF⟩ | go_keep) (fun hHeld => ?_)
          refine Drawn.tk 0 (some 33) rfl rfl (by assumption) ?_
          try simp only [Act.put, List.setIfInBounds_toArray, List.set_cons_zero, List.set_cons_succ]
          refine Drawn.tk 1 (some 34) rfl rfl (by assumption) ?_
          try simp only [Act.put, List.setIfInBounds_toArray, List.set_cons_zero, List.set_cons_succ]
          refine Drawn.tk 2 (some 35) rfl rfl (by assumption) ?_
          try simp only [Act.put, List.setIfInBounds_toArray, List.set_cons_zero, List.set_cons_succ]
          refine Drawn.tk 3 (some 36) rfl rfl (by assumption) ?_
          try simp only [Act.put, List.setIfInBounds_toArray, List.set_cons_zero, List.set_cons_succ]
          refine Drawn.tk 4 (some 37) rfl rfl (by assumption) ?_
          try simp only [Act.put, List.setIfInBounds_toArray, List.set_cons_zero, List.set_cons_succ]
          refine Drawn.tk 5 (some 38) rfl rfl (by assumption) ?_
          try simp only [Act.put, List.setIfInBounds_toArray, List.set_cons_zero, List.set_cons_succ]
          refine Drawn.tk 6 (some 39) rfl rfl (by assumption) ?_
          try simp only [Act.put, List.setIfInBounds_toArray, List.set_cons_zero, List.set_cons_succ]
          refine Drawn.tk 7 (some 40) rfl rfl (by assumption) ?_
          try simp only [Act.put, List.setIfInBounds_toArray, List.set_cons_zero, List.set_cons_succ]
          refine Drawn.tk 8 (some 41) rfl rfl (by assumption) ?_
          try simp only [Act.put, List.setIfInBounds_toArray, List.set_cons_zero, List.set_cons_succ]
          refine Drawn.tk 9 (some 42) rfl rfl (by assumption) ?_
          try simp only [Act.put, List.setIfInBounds_toArray, List.set_cons_zero, List.set_cons_succ]
          refine Drawn.tk 10 (some 43) rfl rfl (by assumption) ?_
          try simp only [Act.put, List.setIfInBounds_toArray, List.set_cons_zero, List.set_cons_succ]
          refine Drawn.tk 11 (some 44) rfl rfl (by assumption) ?_
          try simp only [Act.put, List.setIfInBounds_toArray, List.set_cons_zero, List.set_cons_succ]
          refine Drawn.tk 12 (some 45) rfl rfl (by assumption) ?_
          try simp only [Act.put, List.setIfInBounds_toArray, List.set_cons_zero, List.set_cons_succ]
          refine Drawn.ps 13 (some 46) rfl rfl (by assumption) ?_
          try simp only [Act.put, List.setIfInBounds_toArray, List.set_cons_zero, List.set_cons_succ]
          refine Drawn.ps 14 (some 47) rfl rfl (by assumption) ?_
          try simp only [Act.put, List.setIfInBounds_toArray, List.set_cons_zero, List.set_cons_succ]
          refine Drawn.ps 15 (some 48) rfl rfl (by assumption) ?_
          try simp only [Act.put, List.setIfInBounds_toArray, List.set_cons_zero, List.set_cons_succ]
          refine Drawn.ps 16 (some 49) rfl rfl (by assumption) ?_
          try simp only [Act.put, List.setIfInBounds_toArray, List.set_cons_zero, List.set_cons_succ]
          refine Drawn.ps 17 (some 50) rfl rfl (by assumption) ?_
          try simp only [Act.put, List.setIfInBounds_toArray, List.set_cons_zero, List.set_cons_succ]
          refine Drawn.ps 18 (some 51) rfl rfl (by assumption) ?_
          try simp only [Act.put, List.setIfInBounds_toArray, List.set_cons_zero, List.set_cons_succ]
          refine Drawn.ps 19 (some 52) rfl rfl (by assumption) ?_
          try simp only [Act.put, List.setIfInBounds_toArray, List.set_cons_zero, List.set_cons_succ]
          refine Drawn.ps 20 (some 53) rfl rfl (by assumption) ?_
          try simp only [Act.put, List.setIfInBounds_toArray, List.set_cons_zero, List.set_cons_succ]
          refine Drawn.ps 21 (some 54) rfl rfl (by assumption) ?_
          try simp only [Act.put, List.setIfInBounds_toArray, List.set_cons_zero, List.set_cons_succ]
          refine Drawn.ps 22 (some 55) rfl rfl (by assumption) ?_
          try simp only [Act.put, List.setIfInBounds_toArray, List.set_cons_zero, List.set_cons_succ]
          refine Drawn.ps 23 (some 56) rfl rfl (by assumption) ?_
          try simp only [Act.put, List.setIfInBounds_toArray, List.set_cons_zero, List.set_cons_succ]
          refine Drawn.ps 24 (some 57) rfl rfl (by assumption) ?_
          try simp only [Act.put, List.setIfInBounds_toArray, List.set_cons_zero, List.set_cons_succ]
          refine Drawn.ps 25 (some 58) rfl rfl (by assumption) ?_
          try simp only [Act.put, List.setIfInBounds_toArray, List.set_cons_zero, List.set_cons_succ]
          refine Drawn.ps 26 (some 59) rfl rfl (by assumption) ?_
          try simp only [Act.put, List.setIfInBounds_toArray, List.set_cons_zero, List.set_cons_succ]
          refine Drawn.ps 27 (some 60) rfl rfl (by assumption) ?_
          try simp only [Act.put, List.setIfInBounds_toArray, List.set_cons_zero, List.set_cons_succ]
          refine Drawn.ps 28 (some 61) rfl rfl (by assumption) ?_
          try simp only [Act.put, List.setIfInBounds_toArray, List.set_cons_zero, List.set_cons_succ]
          refine Drawn.ps 29 (some 62) rfl rfl (by assumption) ?_
          try simp only [Act.put, List.setIfInBounds_toArray, List.set_cons_zero, List.set_cons_succ]
          refine Drawn.ps 30 (some 63) rfl rfl (by assumption) ?_
          try simp only [Act.put, List.setIfInBounds_toArray, List.set_cons_zero, List.set_cons_succ]
          refine Drawn.tk 31 (some 64) rfl rfl (by assumption) ?_
          try simp only [Act.put, List.setIfInBounds_toArray, List.set_cons_zero, List.set_cons_succ]
          refine wpAnyH_done (by kernel_rfl) ?_ _
          go_wp2_with fail
          go_ret
          exact ⟨ret_bool (hno.out hfk.out).symm, hwr.drew⟩
      · have z0' : (kx == 0) = false := by simpa using z0
        by_cases z2 : 0 < kx
        · obtain ⟨p, hp⟩ : ∃ p, Hid (Rform.reg m.regs F kx = p) := ⟨_, rfl⟩
          have hfk : Hid (Rform.fok m.regs kx F = p) := by show _ = _; rw [← hp.out]; simp [Rform.fok, z0, z2]
          have zb : decide (0 < kx) = true := decide_eq_true z2
          clear z0
          go_wp2_with fail
          refine wp_region_held_drew (S := fun w' => (w'.cell? ⟨kn, j, none⟩ = some (.int .i64 kx) ∧ w'.cell? ⟨w1.heap.size, j, none⟩ = some (.int .i64 F)) ∧ w'.cell? ⟨w.heap.size + 1, 0, none⟩ = some vp ∧ w'.cell? ⟨w.heap.size + 1, 1, none⟩ = some (.int .i64 m.ret.kind) ∧ w'.cell? ⟨w.heap.size + 1, 2, none⟩ = some (.int .i64 m.ret.cls) ∧ w'.cell? ⟨w.heap.size + 1, 3, none⟩ = some (.int .i64 m.stack) ∧ w'.cell? ⟨w.heap.size + 1, 4, none⟩ = some (.int .i64 m.locals) ∧ w'.cell? ⟨w.heap.size + 1, 5, none⟩ = some (.int .i64 m.regs) ∧ w'.cell? ⟨w.heap.size + 1, 6, none⟩ = some (.slice da m.code.length dcap) ∧ w'.cell? ⟨w.heap.size + 1, 7, none⟩ = some vh) (by kernel_rfl) (by (try dsimp only); first | exact ⟨⟨cK, cF⟩, d0, d1, d2, d3, d4, d5, d6, d7⟩ | go_keep) (fun hHeld => ?_)
          refine Drawn.tk 0 (some 33) rfl rfl (by assumption) ?_
          try simp only [Act.put, List.setIfInBounds_toArray, List.set_cons_zero, List.set_cons_succ]
          refine Drawn.tk 1 (some 34) rfl rfl (by assumption) ?_
          try simp only [Act.put, List.setIfInBounds_toArray, List.set_cons_zero, List.set_cons_succ]
          refine Drawn.tk 2 (some 35) rfl rfl (by assumption) ?_
          try simp only [Act.put, List.setIfInBounds_toArray, List.set_cons_zero, List.set_cons_succ]
          refine Drawn.tk 3 (some 36) rfl rfl (by assumption) ?_
          try simp only [Act.put, List.setIfInBounds_toArray, List.set_cons_zero, List.set_cons_succ]
          refine Drawn.tk 4 (some 37) rfl rfl (by assumption) ?_
          try simp only [Act.put, List.setIfInBounds_toArray, List.set_cons_zero, List.set_cons_succ]
          refine Drawn.tk 5 (some 38) rfl rfl (by assumption) ?_
          try simp only [Act.put, List.setIfInBounds_toArray, List.set_cons_zero, List.set_cons_succ]
          refine Drawn.ps 6 (some 39) rfl rfl (by assumption) ?_
          try simp only [Act.put, List.setIfInBounds_toArray, List.set_cons_zero, List.set_cons_succ]
          refine Drawn.ps 7 (some 40) rfl rfl (by assumption) ?_
          try simp only [Act.put, List.setIfInBounds_toArray, List.set_cons_zero, List.set_cons_succ]
          refine Drawn.ps 8 (some 41) rfl rfl (by assumption) ?_
          try simp only [Act.put, List.setIfInBounds_toArray, List.set_cons_zero, List.set_cons_succ]
          refine Drawn.ps 9 (some 42) rfl rfl (by assumption) ?_
          try simp only [Act.put, List.setIfInBounds_toArray, List.set_cons_zero, List.set_cons_succ]
          refine Drawn.ps 10 (some 43) rfl rfl (by assumption) ?_
          try simp only [Act.put, List.setIfInBounds_toArray, List.set_cons_zero, List.set_cons_succ]
          refine Drawn.tk 11 (some 44) rfl rfl (by assumption) ?_
          try simp only [Act.put, List.setIfInBounds_toArray, List.set_cons_zero, List.set_cons_succ]
          refine Drawn.tk 12 (some 45) rfl rfl (by assumption) ?_
          try simp only [Act.put, List.setIfInBounds_toArray, List.set_cons_zero, List.set_cons_succ]
          refine Drawn.tk 13 (some 46) rfl rfl (by assumption) ?_
          try simp only [Act.put, List.setIfInBounds_toArray, List.set_cons_zero, List.set_cons_succ]
          refine Drawn.tk 14 (some 47) rfl rfl (by assumption) ?_
          try simp only [Act.put, List.setIfInBounds_toArray, List.set_cons_zero, List.set_cons_succ]
          refine Drawn.tk 15 (some 48) rfl rfl (by assumption) ?_
          try simp only [Act.put, List.setIfInBounds_toArray, List.set_cons_zero, List.set_cons_succ]
          refine Drawn.tk 16 (some 49) rfl rfl (by assumption) ?_
          try simp only [Act.put, List.setIfInBounds_toArray, List.set_cons_zero, List.set_cons_succ]
          refine Drawn.tk 17 (some 50) rfl rfl (by assumption) ?_
          try simp only [Act.put, List.setIfInBounds_toArray, List.set_cons_zero, List.set_cons_succ]
          refine Drawn.tk 18 (some 51) rfl rfl (by assumption) ?_
          try simp only [Act.put, List.setIfInBounds_toArray, List.set_cons_zero, List.set_cons_succ]
          refine Drawn.tk 19 (some 52) rfl rfl (by assumption) ?_
          try simp only [Act.put, List.setIfInBounds_toArray, List.set_cons_zero, List.set_cons_succ]
          refine Drawn.tk 20 (some 53) rfl rfl (by assumption) ?_
          try simp only [Act.put, List.setIfInBounds_toArray, List.set_cons_zero, List.set_cons_succ]
          refine Drawn.tk 21 (some 54) rfl rfl (by assumption) ?_
          try simp only [Act.put, List.setIfInBounds_toArray, List.set_cons_zero, List.set_cons_succ]
          refine Drawn.tk 22 (some 55) rfl rfl (by assumption) ?_
          try simp only [Act.put, List.setIfInBounds_toArray, List.set_cons_zero, List.set_cons_succ]
          refine Drawn.tk 23 (some 56) rfl rfl (by assumption) ?_
          try simp only [Act.put, List.setIfInBounds_toArray, List.set_cons_zero, List.set_cons_succ]
          refine Drawn.tk 24 (some 57) rfl rfl (by assumption) ?_
          try simp only [Act.put, List.setIfInBounds_toArray, List.set_cons_zero, List.set_cons_succ]
          refine Drawn.tk 25 (some 58) rfl rfl (by assumption) ?_
          try simp only [Act.put, List.setIfInBounds_toArray, List.set_cons_zero, List.set_cons_succ]
          refine Drawn.tk 26 (some 59) rfl rfl (by assumption) ?_
          try simp only [Act.put, List.setIfInBounds_toArray, List.set_cons_zero, List.set_cons_succ]
          refine Drawn.tk 27 (some 60) rfl rfl (by assumption) ?_
          try simp only [Act.put, List.setIfInBounds_toArray, List.set_cons_zero, List.set_cons_succ]
          refine wpAnyH_ready (rs := [28]) (by kernel_rfl) (by simp) ?_
          refine AllReadyH.cons rfl (fun K hK => ?_) AllReadyH.nil
          go_simp
          go_at_call 90
          refine (regV m F kx p _ _ hp.out (hm0.out.mono hwr.drew (by simp; omega)) hr.out).mono ?_
          rintro e w6 ⟨rfl, hb6⟩
          have hw6 : Below wr.heap.size wr w6 := Below.trans (by repeat' (first | with_reducible exact Below.refl _ _ | with_reducible assumption | exact Nat.le_refl _ | with_reducible refine Go.Proofs.Ytncmhenfgbcihaa.Rd.below_drewN ?_ _ | with_reducible refine Below.alloc ?_ ?_ _ | with_reducible refine Below.setCell ?_ ?_ _ | with_reducible refine Below.drew ?_ | omega | (simp; omega) | (simp; done))) (hb6.mono (by simp))
          have s1 := kept hw6 (by omega) cK
          have s2 := kept hw6 (by omega) cF
          have s3 := kept hw6 (by omega) d0
          have s4 := kept hw6 (by omega) d1
          have s5 := kept hw6 (by omega) d2
          have s6 := kept hw6 (by omega) d3
          have s7 := kept hw6 (by omega) d4
          have s8 := kept hw6 (by omega) d5
          have s9 := kept hw6 (by omega) d6
          have s10 := kept hw6 (by omega) d7
          go_wp2_with fail
          refine hK.out _ _ (by (try dsimp only); exact ⟨⟨s1, s2⟩, s3, s4, s5, s6, s7, s8, s9, s10⟩) (fun hHeld => ?_)
          clear hK K
          try simp only [Act.put, List.setIfInBounds_toArray, List.set_cons_zero, List.set_cons_succ]
          refine Drawn.tk 29 (some 62) rfl rfl (by assumption) ?_
          try simp only [Act.put, List.setIfInBounds_toArray, List.set_cons_zero, List.set_cons_succ]
          refine Drawn.tk 30 (some 63) rfl rfl (by assumption) ?_
          try simp only [Act.put, List.setIfInBounds_toArray, List.set_cons_zero, List.set_cons_succ]
          refine Drawn.tk 31 (some 64) rfl rfl (by assumption) ?_
          try simp only [Act.put, List.setIfInBounds_toArray, List.set_cons_zero, List.set_cons_succ]
          refine wpAnyH_done (by kernel_rfl) ?_ _
          clear s1 s2 s3 s4 s5 s6 s7 s8 s9 s10
          cases p
          · go_wp2_with fail
            go_ret
            exact ⟨ret_bool (hno.out hfk.out).symm, hwr.trans (hw6.mono (by omega))⟩
          · go_wp2_with fail
            go_roundw
            case rel => exact ⟨j + 1, by omega, by go_num, hq.trans (hw6.mono (by omega)), hyes.out hfk.out⟩
            case measure => simp [intOf]; omega
        · have hfk : Hid (Rform.fok m.regs kx F = true) := by show _ = _; simp [Rform.fok, z0, z2]
          have zb : decide (0 < kx) = false := decide_eq_false z2
          clear z0
          go_wp2_with fail
          refine wp_region_held_drew (S := fun w' => w'.cell? ⟨kn, j, none⟩ = some (.int .i64 kx) ∧ w'.cell? ⟨w1.heap.size, j, none⟩ = some (.int .i64 F)) (by kernel_rfl) (by (try dsimp only); first | exact ⟨cK, cF⟩ | go_keep) (fun hHeld => ?_)
          refine Drawn.tk 0 (some 33) rfl rfl (by assumption) ?_
          try simp only [Act.put, List.setIfInBounds_toArray, List.set_cons_zero, List.set_cons_succ]
          refine Drawn.tk 1 (some 34) rfl rfl (by assumption) ?_
          try simp only [Act.put, List.setIfInBounds_toArray, List.set_cons_zero, List.set_cons_succ]
          refine Drawn.tk 2 (some 35) rfl rfl (by assumption) ?_
          try simp only [Act.put, List.setIfInBounds_toArray, List.set_cons_zero, List.set_cons_succ]
          refine Drawn.tk 3 (some 36) rfl rfl (by assumption) ?_
          try simp only [Act.put, List.setIfInBounds_toArray, List.set_cons_zero, List.set_cons_succ]
          refine Drawn.tk 4 (some 37) rfl rfl (by assumption) ?_
          try simp only [Act.put, List.setIfInBounds_toArray, List.set_cons_zero, List.set_cons_succ]
          refine Drawn.tk 5 (some 38) rfl rfl (by assumption) ?_
          try simp only [Act.put, List.setIfInBounds_toArray, List.set_cons_zero, List.set_cons_succ]
          refine Drawn.ps 6 (some 39) rfl rfl (by assumption) ?_
          try simp only [Act.put, List.setIfInBounds_toArray, List.set_cons_zero, List.set_cons_succ]
          refine Drawn.ps 7 (some 40) rfl rfl (by assumption) ?_
          try simp only [Act.put, List.setIfInBounds_toArray, List.set_cons_zero, List.set_cons_succ]
          refine Drawn.ps 8 (some 41) rfl rfl (by assumption) ?_
          try simp only [Act.put, List.setIfInBounds_toArray, List.set_cons_zero, List.set_cons_succ]
          refine Drawn.ps 9 (some 42) rfl rfl (by assumption) ?_
          try simp only [Act.put, List.setIfInBounds_toArray, List.set_cons_zero, List.set_cons_succ]
          refine Drawn.ps 10 (some 43) rfl rfl (by assumption) ?_
          try simp only [Act.put, List.setIfInBounds_toArray, List.set_cons_zero, List.set_cons_succ]
          refine Drawn.tk 11 (some 44) rfl rfl (by assumption) ?_
          try simp only [Act.put, List.setIfInBounds_toArray, List.set_cons_zero, List.set_cons_succ]
          refine Drawn.tk 12 (some 45) rfl rfl (by assumption) ?_
          try simp only [Act.put, List.setIfInBounds_toArray, List.set_cons_zero, List.set_cons_succ]
          refine Drawn.tk 13 (some 46) rfl rfl (by assumption) ?_
          try simp only [Act.put, List.setIfInBounds_toArray, List.set_cons_zero, List.set_cons_succ]
          refine Drawn.tk 14 (some 47) rfl rfl (by assumption) ?_
          try simp only [Act.put, List.setIfInBounds_toArray, List.set_cons_zero, List.set_cons_succ]
          refine Drawn.tk 15 (some 48) rfl rfl (by assumption) ?_
          try simp only [Act.put, List.setIfInBounds_toArray, List.set_cons_zero, List.set_cons_succ]
          refine Drawn.tk 16 (some 49) rfl rfl (by assumption) ?_
          try simp only [Act.put, List.setIfInBounds_toArray, List.set_cons_zero, List.set_cons_succ]
          refine Drawn.tk 17 (some 50) rfl rfl (by assumption) ?_
          try simp only [Act.put, List.setIfInBounds_toArray, List.set_cons_zero, List.set_cons_succ]
          refine Drawn.tk 18 (some 51) rfl rfl (by assumption) ?_
          try simp only [Act.put, List.setIfInBounds_toArray, List.set_cons_zero, List.set_cons_succ]
          refine Drawn.ps 19 (some 52) rfl rfl (by assumption) ?_
          try simp only [Act.put, List.setIfInBounds_toArray, List.set_cons_zero, List.set_cons_succ]
          refine Drawn.ps 20 (some 53) rfl rfl (by assumption) ?_
          try simp only [Act.put, List.setIfInBounds_toArray, List.set_cons_zero, List.set_cons_succ]
          refine Drawn.ps 21 (some 54) rfl rfl (by assumption) ?_
          try simp only [Act.put, List.setIfInBounds_toArray, List.set_cons_zero, List.set_cons_succ]
          refine Drawn.ps 22 (some 55) rfl rfl (by assumption) ?_
          try simp only [Act.put, List.setIfInBounds_toArray, List.set_cons_zero, List.set_cons_succ]
          refine Drawn.ps 23 (some 56) rfl rfl (by assumption) ?_
          try simp only [Act.put, List.setIfInBounds_toArray, List.set_cons_zero, List.set_cons_succ]
          refine Drawn.ps 24 (some 57) rfl rfl (by assumption) ?_
          try simp only [Act.put, List.setIfInBounds_toArray, List.set_cons_zero, List.set_cons_succ]
          refine Drawn.ps 25 (some 58) rfl rfl (by assumption) ?_
          try simp only [Act.put, List.setIfInBounds_toArray, List.set_cons_zero, List.set_cons_succ]
          refine Drawn.ps 26 (some 59) rfl rfl (by assumption) ?_
          try simp only [Act.put, List.setIfInBounds_toArray, List.set_cons_zero, List.set_cons_succ]
          refine Drawn.ps 27 (some 60) rfl rfl (by assumption) ?_
          try simp only [Act.put, List.setIfInBounds_toArray, List.set_cons_zero, List.set_cons_succ]
          refine Drawn.ps 28 (some 61) rfl rfl (by assumption) ?_
          try simp only [Act.put, List.setIfInBounds_toArray, List.set_cons_zero, List.set_cons_succ]
          refine Drawn.ps 29 (some 62) rfl rfl (by assumption) ?_
          try simp only [Act.put, List.setIfInBounds_toArray, List.set_cons_zero, List.set_cons_succ]
          refine Drawn.tk 30 (some 63) rfl rfl (by assumption) ?_
          try simp only [Act.put, List.setIfInBounds_toArray, List.set_cons_zero, List.set_cons_succ]
          refine Drawn.tk 31 (some 64) rfl rfl (by assumption) ?_
          try simp only [Act.put, List.setIfInBounds_toArray, List.set_cons_zero, List.set_cons_succ]
          refine wpAnyH_done (by kernel_rfl) ?_ _
          go_wp2_with fail
          go_roundw
          case rel => exact ⟨j + 1, by omega, by go_num, hq.trans (Below.drew (Below.refl _ _)), hyes.out hfk.out⟩
          case measure => simp [intOf]; omega
    · have hge : ¬ (j : Int) < 3 := by omega
      obtain rfl : j = 3 := by omega
      have d0 := kept hq (by omega) (kept hbW (by omega) m0)
      have d1 := kept hq (by omega) (kept hbW (by omega) m1)
      have d2 := kept hq (by omega) (kept hbW (by omega) m2)
      have d3 := kept hq (by omega) (kept hbW (by omega) m3)
      have d4 := kept hq (by omega) (kept hbW (by omega) m4)
      have d5 := kept hq (by omega) (kept hbW (by omega) m5)
      have d6 := kept hq (by omega) (kept hbW (by omega) m6)
      have d7 := kept hq (by omega) (kept hbW (by omega) m7)
      have c0 := kept hq (by omega) (kept hbW (by omega) f0)
      have c1 := kept hq (by omega) (kept hbW (by omega) f1)
      have y0 := kept hq (by omega) (kept hbW (by omega) x0)
      have y1 := kept hq (by omega) (kept hbW (by omega) x1)
      have y2 := kept hq (by omega) (kept hbW (by omega) x2)
      have y3 := kept hq (by omega) (kept hbW (by omega) x3)
      have y4 := kept hq (by omega) (kept hbW (by omega) x4)
      have y5 := kept hq (by omega) (kept hbW (by omega) x5)
      have hA := Lib.hid (And.intro (hall.out 0 (by omega)) (And.intro (hall.out 1 (by omega)) (hall.out 2 (by omega))))
      clear e0 e1 e2 a0 a1 a2 f0 f1 m0 m1 m2 m3 m4 m5 m6 m7 x0 x1 x2 x3 x4 x5 hall hq hbW hw1
      by_cases h15 : op = 15
      · subst h15
        by_cases har : 0 < args.length
        · have hX : Hid (Rform.ins f m ⟨15, a, b, c, n, args⟩ = false) := by show _ = _; simp [Rform.ins, show args.length ≠ 0 by omega]
          go_wp2_with fail
          go_ret
          exact ⟨ret_bool hX.out.symm, hwr⟩
        have har0 : Hid (args.length = 0) := by show _ = _; omega
        have hsub : IntKind.i64.wrap ((f.classes.length : Int) - 1) = (f.classes.length : Int) - 1 := by rw [Num.wrap_i64, wrap64_id ⟨by omega, by omega⟩]
        have hXX : Hid (Rform.ins f m ⟨15, a, b, c, n, args⟩ = (Form.rng c 0 f.classes.length && Form.rng n 0 (Form.nf f.classes c) && Rform.reg m.regs a (Rform.fk f.classes c n))) := by
          show _ = _
          have hk2 := hkk.out
          simp [Rform.kinds] at hk2
          obtain ⟨rfl, rfl, rfl⟩ := hk2
          have hA2 := hA.out
          simp [pick, Rform.fok] at hA2
          simp [Rform.ins, Rform.body, Rform.num, har0.out, hA2]
        obtain ⟨p, hp⟩ : ∃ p, Hid (within c 0 ((f.classes.length : Int) - 1) = p) := ⟨_, rfl⟩
        have hpr : Hid (Form.rng c 0 f.classes.length = p) := by show _ = _; rw [← hp.out, within_rng, Int.sub_add_cancel]
        have hpf := hp.out
        cases p
        ·
          have hX : Hid (Rform.ins f m ⟨15, a, b, c, n, args⟩ = false) := by show _ = _; rw [hXX.out, hpr.out]; rfl
          go_wp2_with fail
          refine wp_region_held_drew (S := fun w' => w'.cell? ⟨w.heap.size + 1 + 1, 3, none⟩ = some (.int .i64 c) ∧ w'.cell? ⟨w.heap.size, 0, none⟩ = some (.slice ca f.classes.length ccap) ∧ w'.cell? ⟨w.heap.size + 1 + 1, 4, none⟩ = some (.int .i64 n)) (by kernel_rfl) (by (try dsimp only); first | exact ⟨y3, c0, y4⟩ | go_keep) (fun hHeld => ?_)
          refine Drawn.tk 0 (some 121) rfl rfl (by assumption) ?_
          try simp only [Act.put, List.setIfInBounds_toArray, List.set_cons_zero, List.set_cons_succ]
          refine Drawn.tk 1 (some 122) rfl rfl (by assumption) ?_
          try simp only [Act.put, List.setIfInBounds_toArray, List.set_cons_zero, List.set_cons_succ]
          refine Drawn.tk 2 (some 123) rfl rfl (by assumption) ?_
          try simp only [Act.put, List.setIfInBounds_toArray, List.set_cons_zero, List.set_cons_succ]
          refine Drawn.tk 3 (some 124) rfl rfl (by assumption) ?_
          try simp only [Act.put, List.setIfInBounds_toArray, List.set_cons_zero, List.set_cons_succ]
          refine Drawn.tk 4 (some 125) rfl rfl (by assumption) ?_
          try simp only [Act.put, List.setIfInBounds_toArray, List.set_cons_zero, List.set_cons_succ]
          refine Drawn.tk 5 (some 126) rfl rfl (by assumption) ?_
          try simp only [Act.put, List.setIfInBounds_toArray, List.set_cons_zero, List.set_cons_succ]
          refine wpAnyH_ready (rs := [6]) (by kernel_rfl) (by simp) ?_
          refine AllReadyH.cons rfl (fun K hK => ?_) AllReadyH.nil
          go_simp
          go_at_call 48
          refine (wi _ _ _ _).mono ?_
          rintro e w2 ⟨rfl, rfl⟩
          rw [hpf]
          go_wp2_with fail
          refine hK.out _ _ (by (try dsimp only); exact ⟨y3, c0, y4⟩) (fun hHeld => ?_)
          clear hK K
          try simp only [Act.put, List.setIfInBounds_toArray, List.set_cons_zero, List.set_cons_succ]
          refine Drawn.tk 7 (some 128) rfl rfl (by assumption) ?_
          try simp only [Act.put, List.setIfInBounds_toArray, List.set_cons_zero, List.set_cons_succ]
          refine Drawn.tk 8 (some 129) rfl rfl (by assumption) ?_
          try simp only [Act.put, List.setIfInBounds_toArray, List.set_cons_zero, List.set_cons_succ]
          refine Drawn.ps 9 (some 130) rfl rfl (by assumption) ?_
          try simp only [Act.put, List.setIfInBounds_toArray, List.set_cons_zero, List.set_cons_succ]
          refine Drawn.ps 10 (some 131) rfl rfl (by assumption) ?_
          try simp only [Act.put, List.setIfInBounds_toArray, List.set_cons_zero, List.set_cons_succ]
          refine Drawn.ps 11 (some 132) rfl rfl (by assumption) ?_
          try simp only [Act.put, List.setIfInBounds_toArray, List.set_cons_zero, List.set_cons_succ]
          refine Drawn.tk 12 (some 133) rfl rfl (by assumption) ?_
          try simp only [Act.put, List.setIfInBounds_toArray, List.set_cons_zero, List.set_cons_succ]
          refine Drawn.tk 13 (some 134) rfl rfl (by assumption) ?_
          try simp only [Act.put, List.setIfInBounds_toArray, List.set_cons_zero, List.set_cons_succ]
          refine Drawn.ps 14 (some 135) rfl rfl (by assumption) ?_
          try simp only [Act.put, List.setIfInBounds_toArray, List.set_cons_zero, List.set_cons_succ]
          refine Drawn.ps 15 (some 136) rfl rfl (by assumption) ?_
          try simp only [Act.put, List.setIfInBounds_toArray, List.set_cons_zero, List.set_cons_succ]
          refine Drawn.ps 16 (some 137) rfl rfl (by assumption) ?_
          try simp only [Act.put, List.setIfInBounds_toArray, List.set_cons_zero, List.set_cons_succ]
          refine Drawn.ps 17 (some 138) rfl rfl (by assumption) ?_
          try simp only [Act.put, List.setIfInBounds_toArray, List.set_cons_zero, List.set_cons_succ]
          refine Drawn.ps 18 (some 139) rfl rfl (by assumption) ?_
          try simp only [Act.put, List.setIfInBounds_toArray, List.set_cons_zero, List.set_cons_succ]
          refine Drawn.ps 19 (some 140) rfl rfl (by assumption) ?_
          try simp only [Act.put, List.setIfInBounds_toArray, List.set_cons_zero, List.set_cons_succ]
          refine Drawn.ps 20 (some 141) rfl rfl (by assumption) ?_
          try simp only [Act.put, List.setIfInBounds_toArray, List.set_cons_zero, List.set_cons_succ]
          refine Drawn.ps 21 (some 142) rfl rfl (by assumption) ?_
          try simp only [Act.put, List.setIfInBounds_toArray, List.set_cons_zero, List.set_cons_succ]
          refine Drawn.ps 22 (some 143) rfl rfl (by assumption) ?_
          try simp only [Act.put, List.setIfInBounds_toArray, List.set_cons_zero, List.set_cons_succ]
          refine Drawn.ps 23 (some 144) rfl rfl (by assumption) ?_
          try simp only [Act.put, List.setIfInBounds_toArray, List.set_cons_zero, List.set_cons_succ]
          refine Drawn.ps 24 (some 145) rfl rfl (by assumption) ?_
          try simp only [Act.put, List.setIfInBounds_toArray, List.set_cons_zero, List.set_cons_succ]
          refine Drawn.tk 25 (some 146) rfl rfl (by assumption) ?_
          try simp only [Act.put, List.setIfInBounds_toArray, List.set_cons_zero, List.set_cons_succ]
          refine wpAnyH_done (by kernel_rfl) ?_ _
          go_wp2_with fail
          go_ret
          exact ⟨ret_bool hX.out.symm, hwr.drew⟩
        ·
          have hr2 : 0 ≤ c ∧ c < f.classes.length := by simpa [Form.rng] using hpr.out
          obtain ⟨k, rfl⟩ := Int.eq_ofNat_of_zero_le hr2.1
          have hk : k < f.classes.length := by omega
          obtain ⟨b0, o0, rfl, hb0, he⟩ := cel2.out k hk
          have hnf : Hid (Form.nf f.classes (k : Int) = (f.classes[k]).fields.length) := by
            show _ = _
            rw [Form.nf, Int.toNat_natCast, Hier.at_eq hk]
          have hfk : Hid (∀ j : Nat, Rform.fk f.classes (k : Int) (j : Int) = ((f.classes[k]).fields.getD j ⟨0, 0⟩).kind) := by
            intro j
            rw [Rform.fk, Int.toNat_natCast, Int.toNat_natCast, Hier.at_eq hk]
          obtain ⟨x, hx⟩ := at_of hk
          rw [hx.out] at he hnf hfk
          obtain ⟨_, _, fv, g3, fa, fcap, rfl, flc, fcc, fel⟩ := he
          have g4 := kept hwr hb0 g3
          have hk0 : (0 : Int) ≤ (k : Int) ∧ (k : Int) < f.classes.length := ⟨by omega, by omega⟩
          have fcI : (x.fields.length : Int) ≤ 9223372036854775807 := by omega
          have fel2 := Lib.hid fel
          clear fel g3 hr2
          by_cases n0 : n < 0
          ·
            have hX : Hid (Rform.ins f m ⟨15, a, b, (k : Int), n, args⟩ = false) := by
              show _ = _
              rw [hXX.out, show Form.rng n 0 (Form.nf f.classes (k : Int)) = false by simp [Form.rng]; omega]; simp
            have n1 : decide (n < 0) = true := decide_eq_true n0
            go_wp2_with fail
            refine wp_region_held_drew (S := fun w' => w'.cell? ⟨w.heap.size + 1 + 1, 3, none⟩ = some (.int .i64 (k : Int)) ∧ w'.cell? ⟨w.heap.size, 0, none⟩ = some (.slice (some ⟨b0, o0, none⟩) f.classes.length ccap) ∧ w'.cell? ⟨w.heap.size + 1 + 1, 4, none⟩ = some (.int .i64 n) ∧ w'.cell? ⟨b0, o0 + k * 2 + 1, none⟩ = some (.slice fa x.fields.length fcap)) (by kernel_rfl) (by (try dsimp only); first | exact ⟨y3, c0, y4, g4⟩ | go_keep) (fun hHeld => ?_)
            refine Drawn.tk 0 (some 121) rfl rfl (by assumption) ?_
            try simp only [Act.put, List.setIfInBounds_toArray, List.set_cons_zero, List.set_cons_succ]
            refine Drawn.tk 1 (some 122) rfl rfl (by assumption) ?_
            try simp only [Act.put, List.setIfInBounds_toArray, List.set_cons_zero, List.set_cons_succ]
            refine Drawn.tk 2 (some 123) rfl rfl (by assumption) ?_
            try simp only [Act.put, List.setIfInBounds_toArray, List.set_cons_zero, List.set_cons_succ]
            refine Drawn.tk 3 (some 124) rfl rfl (by assumption) ?_
            try simp only [Act.put, List.setIfInBounds_toArray, List.set_cons_zero, List.set_cons_succ]
            refine Drawn.tk 4 (some 125) rfl rfl (by assumption) ?_
            try simp only [Act.put, List.setIfInBounds_toArray, List.set_cons_zero, List.set_cons_succ]
            refine Drawn.tk 5 (some 126) rfl rfl (by assumption) ?_
            try simp only [Act.put, List.setIfInBounds_toArray, List.set_cons_zero, List.set_cons_succ]
            refine wpAnyH_ready (rs := [6]) (by kernel_rfl) (by simp) ?_
            refine AllReadyH.cons rfl (fun K hK => ?_) AllReadyH.nil
            go_simp
            go_at_call 48
            refine (wi _ _ _ _).mono ?_
            rintro e w2 ⟨rfl, rfl⟩
            rw [hpf]
            go_wp2_with fail
            refine hK.out _ _ (by (try dsimp only); exact ⟨y3, c0, y4, g4⟩) (fun hHeld => ?_)
            clear hK K
            try simp only [Act.put, List.setIfInBounds_toArray, List.set_cons_zero, List.set_cons_succ]
            refine Drawn.tk 7 (some 128) rfl rfl (by assumption) ?_
            try simp only [Act.put, List.setIfInBounds_toArray, List.set_cons_zero, List.set_cons_succ]
            refine Drawn.tk 8 (some 129) rfl rfl (by assumption) ?_
            try simp only [Act.put, List.setIfInBounds_toArray, List.set_cons_zero, List.set_cons_succ]
            refine Drawn.tk 9 (some 130) rfl rfl (by assumption) ?_
            try simp only [Act.put, List.setIfInBounds_toArray, List.set_cons_zero, List.set_cons_succ]
            refine Drawn.tk 10 (some 131) rfl rfl (by assumption) ?_
            try simp only [Act.put, List.setIfInBounds_toArray, List.set_cons_zero, List.set_cons_succ]
            refine Drawn.tk 11 (some 132) rfl rfl (by assumption) ?_
            try simp only [Act.put, List.setIfInBounds_toArray, List.set_cons_zero, List.set_cons_succ]
            refine Drawn.tk 12 (some 133) rfl rfl (by assumption) ?_
            try simp only [Act.put, List.setIfInBounds_toArray, List.set_cons_zero, List.set_cons_succ]
            refine Drawn.tk 13 (some 134) rfl rfl (by assumption) ?_
            try simp only [Act.put, List.setIfInBounds_toArray, List.set_cons_zero, List.set_cons_succ]
            refine Drawn.ps 14 (some 135) rfl rfl (by assumption) ?_
            try simp only [Act.put, List.setIfInBounds_toArray, List.set_cons_zero, List.set_cons_succ]
            refine Drawn.ps 15 (some 136) rfl rfl (by assumption) ?_
            try simp only [Act.put, List.setIfInBounds_toArray, List.set_cons_zero, List.set_cons_succ]
            refine Drawn.ps 16 (some 137) rfl rfl (by assumption) ?_
            try simp only [Act.put, List.setIfInBounds_toArray, List.set_cons_zero, List.set_cons_succ]
            refine Drawn.ps 17 (some 138) rfl rfl (by assumption) ?_
            try simp only [Act.put, List.setIfInBounds_toArray, List.set_cons_zero, List.set_cons_succ]
            refine Drawn.ps 18 (some 139) rfl rfl (by assumption) ?_
            try simp only [Act.put, List.setIfInBounds_toArray, List.set_cons_zero, List.set_cons_succ]
            refine Drawn.ps 19 (some 140) rfl rfl (by assumption) ?_
            try simp only [Act.put, List.setIfInBounds_toArray, List.set_cons_zero, List.set_cons_succ]
            refine Drawn.ps 20 (some 141) rfl rfl (by assumption) ?_
            try simp only [Act.put, List.setIfInBounds_toArray, List.set_cons_zero, List.set_cons_succ]
            refine Drawn.ps 21 (some 142) rfl rfl (by assumption) ?_
            try simp only [Act.put, List.setIfInBounds_toArray, List.set_cons_zero, List.set_cons_succ]
            refine Drawn.ps 22 (some 143) rfl rfl (by assumption) ?_
            try simp only [Act.put, List.setIfInBounds_toArray, List.set_cons_zero, List.set_cons_succ]
            refine Drawn.ps 23 (some 144) rfl rfl (by assumption) ?_
            try simp only [Act.put, List.setIfInBounds_toArray, List.set_cons_zero, List.set_cons_succ]
            refine Drawn.ps 24 (some 145) rfl rfl (by assumption) ?_
            try simp only [Act.put, List.setIfInBounds_toArray, List.set_cons_zero, List.set_cons_succ]
            refine Drawn.tk 25 (some 146) rfl rfl (by assumption) ?_
            try simp only [Act.put, List.setIfInBounds_toArray, List.set_cons_zero, List.set_cons_succ]
            refine wpAnyH_done (by kernel_rfl) ?_ _
            go_wp2_with fail
            go_ret
            exact ⟨ret_bool hX.out.symm, hwr.drew⟩
          ·
            have n1 : decide (n < 0) = false := decide_eq_false n0
            by_cases n2 : (x.fields.length : Int) ≤ n
            ·
              have hX : Hid (Rform.ins f m ⟨15, a, b, (k : Int), n, args⟩ = false) := by
                show _ = _
                rw [hXX.out, hnf.out, show Form.rng n 0 x.fields.length = false by simp [Form.rng]; omega]; simp
              have n3 : decide ((x.fields.length : Int) ≤ n) = true := decide_eq_true n2
              go_wp2_with fail
              refine wp_region_held_drew (S := fun w' => w'.cell? ⟨w.heap.size + 1 + 1, 3, none⟩ = some (.int .i64 (k : Int)) ∧ w'.cell? ⟨w.heap.size, 0, none⟩ = some (.slice (some ⟨b0, o0, none⟩) f.classes.length ccap) ∧ w'.cell? ⟨w.heap.size + 1 + 1, 4, none⟩ = some (.int .i64 n) ∧ w'.cell? ⟨b0, o0 + k * 2 + 1, none⟩ = some (.slice fa x.fields.length fcap)) (by kernel_rfl) (by (try dsimp only); first | exact ⟨y3, c0, y4, g4⟩ | go_keep) (fun hHeld => ?_)
              refine Drawn.tk 0 (some 121) rfl rfl (by assumption) ?_
              try simp only [Act.put, List.setIfInBounds_toArray, List.set_cons_zero, List.set_cons_succ]
              refine Drawn.tk 1 (some 122) rfl rfl (by assumption) ?_
              try simp only [Act.put, List.setIfInBounds_toArray, List.set_cons_zero, List.set_cons_succ]
              refine Drawn.tk 2 (some 123) rfl rfl (by assumption) ?_
              try simp only [Act.put, List.setIfInBounds_toArray, List.set_cons_zero, List.set_cons_succ]
              refine Drawn.tk 3 (some 124) rfl rfl (by assumption) ?_
              try simp only [Act.put, List.setIfInBounds_toArray, List.set_cons_zero, List.set_cons_succ]
              refine Drawn.tk 4 (some 125) rfl rfl (by assumption) ?_
              try simp only [Act.put, List.setIfInBounds_toArray, List.set_cons_zero, List.set_cons_succ]
              refine Drawn.tk 5 (some 126) rfl rfl (by assumption) ?_
              try simp only [Act.put, List.setIfInBounds_toArray, List.set_cons_zero, List.set_cons_succ]
              refine wpAnyH_ready (rs := [6]) (by kernel_rfl) (by simp) ?_
              refine AllReadyH.cons rfl (fun K hK => ?_) AllReadyH.nil
              go_simp
              go_at_call 48
              refine (wi _ _ _ _).mono ?_
              rintro e w2 ⟨rfl, rfl⟩
              rw [hpf]
              go_wp2_with fail
              refine hK.out _ _ (by (try dsimp only); exact ⟨y3, c0, y4, g4⟩) (fun hHeld => ?_)
              clear hK K
              try simp only [Act.put, List.setIfInBounds_toArray, List.set_cons_zero, List.set_cons_succ]
              refine Drawn.tk 7 (some 128) rfl rfl (by assumption) ?_
              try simp only [Act.put, List.setIfInBounds_toArray, List.set_cons_zero, List.set_cons_succ]
              refine Drawn.tk 8 (some 129) rfl rfl (by assumption) ?_
              try simp only [Act.put, List.setIfInBounds_toArray, List.set_cons_zero, List.set_cons_succ]
              refine Drawn.tk 9 (some 130) rfl rfl (by assumption) ?_
              try simp only [Act.put, List.setIfInBounds_toArray, List.set_cons_zero, List.set_cons_succ]
              refine Drawn.tk 10 (some 131) rfl rfl (by assumption) ?_
              try simp only [Act.put, List.setIfInBounds_toArray, List.set_cons_zero, List.set_cons_succ]
              refine Drawn.tk 11 (some 132) rfl rfl (by assumption) ?_
              try simp only [Act.put, List.setIfInBounds_toArray, List.set_cons_zero, List.set_cons_succ]
              refine Drawn.tk 12 (some 133) rfl rfl (by assumption) ?_
              try simp only [Act.put, List.setIfInBounds_toArray, List.set_cons_zero, List.set_cons_succ]
              refine Drawn.tk 13 (some 134) rfl rfl (by assumption) ?_
              try simp only [Act.put, List.setIfInBounds_toArray, List.set_cons_zero, List.set_cons_succ]
              refine Drawn.tk 14 (some 135) rfl rfl (by assumption) ?_
              try simp only [Act.put, List.setIfInBounds_toArray, List.set_cons_zero, List.set_cons_succ]
              refine Drawn.tk 15 (some 136) rfl rfl (by assumption) ?_
              try simp only [Act.put, List.setIfInBounds_toArray, List.set_cons_zero, List.set_cons_succ]
              refine Drawn.tk 16 (some 137) rfl rfl (by assumption) ?_
              try simp only [Act.put, List.setIfInBounds_toArray, List.set_cons_zero, List.set_cons_succ]
              refine Drawn.tk 17 (some 138) rfl rfl (by assumption) ?_
              try simp only [Act.put, List.setIfInBounds_toArray, List.set_cons_zero, List.set_cons_succ]
              refine Drawn.tk 18 (some 139) rfl rfl (by assumption) ?_
              try simp only [Act.put, List.setIfInBounds_toArray, List.set_cons_zero, List.set_cons_succ]
              refine Drawn.tk 19 (some 140) rfl rfl (by assumption) ?_
              try simp only [Act.put, List.setIfInBounds_toArray, List.set_cons_zero, List.set_cons_succ]
              refine Drawn.tk 20 (some 141) rfl rfl (by assumption) ?_
              try simp only [Act.put, List.setIfInBounds_toArray, List.set_cons_zero, List.set_cons_succ]
              refine Drawn.tk 21 (some 142) rfl rfl (by assumption) ?_
              try simp only [Act.put, List.setIfInBounds_toArray, List.set_cons_zero, List.set_cons_succ]
              refine Drawn.tk 22 (some 143) rfl rfl (by assumption) ?_
              try simp only [Act.put, List.setIfInBounds_toArray, List.set_cons_zero, List.set_cons_succ]
              refine Drawn.tk 23 (some 144) rfl rfl (by assumption) ?_
              try simp only [Act.put, List.setIfInBounds_toArray, List.set_cons_zero, List.set_cons_succ]
              refine Drawn.tk 24 (some 145) rfl rfl (by assumption) ?_
              try simp only [Act.put, List.setIfInBounds_toArray, List.set_cons_zero, List.set_cons_succ]
              refine Drawn.tk 25 (some 146) rfl rfl (by assumption) ?_
              try simp only [Act.put, List.setIfInBounds_toArray, List.set_cons_zero, List.set_cons_succ]
              refine wpAnyH_done (by kernel_rfl) ?_ _
              go_wp2_with fail
              go_ret
              exact ⟨ret_bool hX.out.symm, hwr.drew⟩
            ·
              obtain ⟨j, rfl⟩ := Int.eq_ofNat_of_zero_le (show 0 ≤ n by omega)
              have hj : j < x.fields.length := by omega
              obtain ⟨fb, fo, rfl, hfb, hfe⟩ := fel2.out j hj
              have hfk2 : Hid (Rform.fk f.classes (k : Int) (j : Int) = (x.fields[j]).kind) := by
                show _ = _
                rw [hfk.out j]; simp [hj]
              obtain ⟨t, ht⟩ := at_of hj
              rw [ht.out] at hfe hfk2
              have e4 := kept hwr hfb hfe.1
              have hX : Hid (Rform.ins f m ⟨15, a, b, (k : Int), (j : Int), args⟩ = Rform.reg m.regs a t.kind) := by
                show _ = _
                rw [hXX.out, hpr.out, hnf.out, hfk2.out, show Form.rng (j : Int) 0 x.fields.length = true by simp [Form.rng]; omega]; simp
              have n3 : decide ((x.fields.length : Int) ≤ (j : Int)) = false := decide_eq_false n2
              have hjI : (0 : Int) ≤ (j : Int) ∧ (j : Int) < x.fields.length := ⟨by omega, by omega⟩
              go_wp2_with fail
              refine wp_region_held_drew (S := fun w' => w'.cell? ⟨w.heap.size + 1 + 1, 3, none⟩ = some (.int .i64 (k : Int)) ∧ w'.cell? ⟨w.heap.size, 0, none⟩ = some (.slice (some ⟨b0, o0, none⟩) f.classes.length ccap) ∧ w'.cell? ⟨w.heap.size + 1 + 1, 4, none⟩ = some (.int .i64 (j : Int)) ∧ w'.cell? ⟨b0, o0 + k * 2 + 1, none⟩ = some (.slice (some ⟨fb, fo, none⟩) x.fields.length fcap)) (by kernel_rfl) (by (try dsimp only); first | exact ⟨y3, c0, y4, g4⟩ | go_keep) (fun hHeld => ?_)
              refine Drawn.tk 0 (some 121) rfl rfl (by assumption) ?_
              try simp only [Act.put, List.setIfInBounds_toArray, List.set_cons_zero, List.set_cons_succ]
              refine Drawn.tk 1 (some 122) rfl rfl (by assumption) ?_
              try simp only [Act.put, List.setIfInBounds_toArray, List.set_cons_zero, List.set_cons_succ]
              refine Drawn.tk 2 (some 123) rfl rfl (by assumption) ?_
              try simp only [Act.put, List.setIfInBounds_toArray, List.set_cons_zero, List.set_cons_succ]
              refine Drawn.tk 3 (some 124) rfl rfl (by assumption) ?_
              try simp only [Act.put, List.setIfInBounds_toArray, List.set_cons_zero, List.set_cons_succ]
              refine Drawn.tk 4 (some 125) rfl rfl (by assumption) ?_
              try simp only [Act.put, List.setIfInBounds_toArray, List.set_cons_zero, List.set_cons_succ]
              refine Drawn.tk 5 (some 126) rfl rfl (by assumption) ?_
              try simp only [Act.put, List.setIfInBounds_toArray, List.set_cons_zero, List.set_cons_succ]
              refine wpAnyH_ready (rs := [6]) (by kernel_rfl) (by simp) ?_
              refine AllReadyH.cons rfl (fun K hK => ?_) AllReadyH.nil
              go_simp
              go_at_call 48
              refine (wi _ _ _ _).mono ?_
              rintro e w2 ⟨rfl, rfl⟩
              rw [hpf]
              go_wp2_with fail
              refine hK.out _ _ (by (try dsimp only); exact ⟨y3, c0, y4, g4⟩) (fun hHeld => ?_)
              clear hK K
              try simp only [Act.put, List.setIfInBounds_toArray, List.set_cons_zero, List.set_cons_succ]
              refine Drawn.tk 7 (some 128) rfl rfl (by assumption) ?_
              try simp only [Act.put, List.setIfInBounds_toArray, List.set_cons_zero, List.set_cons_succ]
              refine Drawn.tk 8 (some 129) rfl rfl (by assumption) ?_
              try simp only [Act.put, List.setIfInBounds_toArray, List.set_cons_zero, List.set_cons_succ]
              refine Drawn.tk 9 (some 130) rfl rfl (by assumption) ?_
              try simp only [Act.put, List.setIfInBounds_toArray, List.set_cons_zero, List.set_cons_succ]
              refine Drawn.tk 10 (some 131) rfl rfl (by assumption) ?_
              try simp only [Act.put, List.setIfInBounds_toArray, List.set_cons_zero, List.set_cons_succ]
              refine Drawn.tk 11 (some 132) rfl rfl (by assumption) ?_
              try simp only [Act.put, List.setIfInBounds_toArray, List.set_cons_zero, List.set_cons_succ]
              refine Drawn.tk 12 (some 133) rfl rfl (by assumption) ?_
              try simp only [Act.put, List.setIfInBounds_toArray, List.set_cons_zero, List.set_cons_succ]
              refine Drawn.tk 13 (some 134) rfl rfl (by assumption) ?_
              try simp only [Act.put, List.setIfInBounds_toArray, List.set_cons_zero, List.set_cons_succ]
              refine Drawn.tk 14 (some 135) rfl rfl (by assumption) ?_
              try simp only [Act.put, List.setIfInBounds_toArray, List.set_cons_zero, List.set_cons_succ]
              refine Drawn.tk 15 (some 136) rfl rfl (by assumption) ?_
              try simp only [Act.put, List.setIfInBounds_toArray, List.set_cons_zero, List.set_cons_succ]
              refine Drawn.tk 16 (some 137) rfl rfl (by assumption) ?_
              try simp only [Act.put, List.setIfInBounds_toArray, List.set_cons_zero, List.set_cons_succ]
              refine Drawn.tk 17 (some 138) rfl rfl (by assumption) ?_
              try simp only [Act.put, List.setIfInBounds_toArray, List.set_cons_zero, List.set_cons_succ]
              refine Drawn.tk 18 (some 139) rfl rfl (by assumption) ?_
              try simp only [Act.put, List.setIfInBounds_toArray, List.set_cons_zero, List.set_cons_succ]
              refine Drawn.tk 19 (some 140) rfl rfl (by assumption) ?_
              try simp only [Act.put, List.setIfInBounds_toArray, List.set_cons_zero, List.set_cons_succ]
              refine Drawn.tk 20 (some 141) rfl rfl (by assumption) ?_
              try simp only [Act.put, List.setIfInBounds_toArray, List.set_cons_zero, List.set_cons_succ]
              refine Drawn.tk 21 (some 142) rfl rfl (by assumption) ?_
              try simp only [Act.put, List.setIfInBounds_toArray, List.set_cons_zero, List.set_cons_succ]
              refine Drawn.tk 22 (some 143) rfl rfl (by assumption) ?_
              try simp only [Act.put, List.setIfInBounds_toArray, List.set_cons_zero, List.set_cons_succ]
              refine Drawn.tk 23 (some 144) rfl rfl (by assumption) ?_
              try simp only [Act.put, List.setIfInBounds_toArray, List.set_cons_zero, List.set_cons_succ]
              refine Drawn.tk 24 (some 145) rfl rfl (by assumption) ?_
              try simp only [Act.put, List.setIfInBounds_toArray, List.set_cons_zero, List.set_cons_succ]
              refine Drawn.tk 25 (some 146) rfl rfl (by assumption) ?_
              try simp only [Act.put, List.setIfInBounds_toArray, List.set_cons_zero, List.set_cons_succ]
              refine wpAnyH_done (by kernel_rfl) ?_ _
              clear hpf n1 n3 hsub
              go_wp2_with fail
              refine wp_region_held_drew (S := fun w' => (w'.cell? ⟨w.heap.size + 1 + 1, 1, none⟩ = some (.int .i64 a) ∧ w'.cell? ⟨w.heap.size + 1 + 1, 3, none⟩ = some (.int .i64 (k : Int)) ∧ w'.cell? ⟨w.heap.size, 0, none⟩ = some (.slice (some ⟨b0, o0, none⟩) f.classes.length ccap) ∧ w'.cell? ⟨w.heap.size + 1 + 1, 4, none⟩ = some (.int .i64 (j : Int)) ∧ w'.cell? ⟨b0, o0 + k * 2 + 1, none⟩ = some (.slice (some ⟨fb, fo, none⟩) x.fields.length fcap) ∧ w'.cell? ⟨fb, fo + j * 2, none⟩ = some (.int .i64 t.kind)) ∧ w'.cell? ⟨w.heap.size + 1, 0, none⟩ = some vp ∧ w'.cell? ⟨w.heap.size + 1, 1, none⟩ = some (.int .i64 m.ret.kind) ∧ w'.cell? ⟨w.heap.size + 1, 2, none⟩ = some (.int .i64 m.ret.cls) ∧ w'.cell? ⟨w.heap.size + 1, 3, none⟩ = some (.int .i64 m.stack) ∧ w'.cell? ⟨w.heap.size + 1, 4, none⟩ = some (.int .i64 m.locals) ∧ w'.cell? ⟨w.heap.size + 1, 5, none⟩ = some (.int .i64 m.regs) ∧ w'.cell? ⟨w.heap.size + 1, 6, none⟩ = some (.slice da m.code.length dcap) ∧ w'.cell? ⟨w.heap.size + 1, 7, none⟩ = some vh) (by kernel_rfl) (by (try dsimp only); first | exact ⟨⟨y1, y3, c0, y4, g4, e4⟩, d0, d1, d2, d3, d4, d5, d6, d7⟩ | go_keep) (fun hHeld => ?_)
              refine Drawn.tk 0 (some 147) rfl rfl (by assumption) ?_
              try simp only [Act.put, List.setIfInBounds_toArray, List.set_cons_zero, List.set_cons_succ]
              refine Drawn.tk 1 (some 148) rfl rfl (by assumption) ?_
              try simp only [Act.put, List.setIfInBounds_toArray, List.set_cons_zero, List.set_cons_succ]
              refine Drawn.tk 2 (some 149) rfl rfl (by assumption) ?_
              try simp only [Act.put, List.setIfInBounds_toArray, List.set_cons_zero, List.set_cons_succ]
              refine Drawn.tk 3 (some 150) rfl rfl (by assumption) ?_
              try simp only [Act.put, List.setIfInBounds_toArray, List.set_cons_zero, List.set_cons_succ]
              refine Drawn.tk 4 (some 151) rfl rfl (by assumption) ?_
              try simp only [Act.put, List.setIfInBounds_toArray, List.set_cons_zero, List.set_cons_succ]
              refine Drawn.tk 5 (some 152) rfl rfl (by assumption) ?_
              try simp only [Act.put, List.setIfInBounds_toArray, List.set_cons_zero, List.set_cons_succ]
              refine Drawn.tk 6 (some 153) rfl rfl (by assumption) ?_
              try simp only [Act.put, List.setIfInBounds_toArray, List.set_cons_zero, List.set_cons_succ]
              refine Drawn.tk 7 (some 154) rfl rfl (by assumption) ?_
              try simp only [Act.put, List.setIfInBounds_toArray, List.set_cons_zero, List.set_cons_succ]
              refine Drawn.tk 8 (some 155) rfl rfl (by assumption) ?_
              try simp only [Act.put, List.setIfInBounds_toArray, List.set_cons_zero, List.set_cons_succ]
              refine Drawn.tk 9 (some 156) rfl rfl (by assumption) ?_
              try simp only [Act.put, List.setIfInBounds_toArray, List.set_cons_zero, List.set_cons_succ]
              refine Drawn.tk 10 (some 157) rfl rfl (by assumption) ?_
              try simp only [Act.put, List.setIfInBounds_toArray, List.set_cons_zero, List.set_cons_succ]
              refine Drawn.tk 11 (some 158) rfl rfl (by assumption) ?_
              try simp only [Act.put, List.setIfInBounds_toArray, List.set_cons_zero, List.set_cons_succ]
              refine Drawn.tk 12 (some 159) rfl rfl (by assumption) ?_
              try simp only [Act.put, List.setIfInBounds_toArray, List.set_cons_zero, List.set_cons_succ]
              refine Drawn.tk 13 (some 160) rfl rfl (by assumption) ?_
              try simp only [Act.put, List.setIfInBounds_toArray, List.set_cons_zero, List.set_cons_succ]
              refine Drawn.tk 14 (some 161) rfl rfl (by assumption) ?_
              try simp only [Act.put, List.setIfInBounds_toArray, List.set_cons_zero, List.set_cons_succ]
              refine wpAnyH_ready (rs := [15]) (by kernel_rfl) (by simp) ?_
              refine AllReadyH.cons rfl (fun K hK => ?_) AllReadyH.nil
              go_simp
              go_at_call 90
              refine (reg m _ _ _ _ (hm0.out.mono hwr.drew.drew (by have := hwr.size; simpa using this)) hr.out).mono ?_
              rintro e w6 ⟨rfl, hb6⟩
              have hb7 : Below wr.heap.size wr w6 := Below.trans (by repeat' (first | with_reducible exact Below.refl _ _ | with_reducible assumption | exact Nat.le_refl _ | with_reducible refine Go.Proofs.Ytncmhenfgbcihaa.Rd.below_drewN ?_ _ | with_reducible refine Below.alloc ?_ ?_ _ | with_reducible refine Below.setCell ?_ ?_ _ | with_reducible refine Below.drew ?_ | omega | (simp; omega) | (simp; done))) (hb6.mono (by simp))
              go_wp2_with fail
              refine hK.out _ _ (by (try dsimp only); exact ⟨⟨kept hb7 (lt_cell y1) y1, kept hb7 (lt_cell y3) y3, kept hb7 (lt_cell c0) c0, kept hb7 (lt_cell y4) y4, kept hb7 (lt_cell g4) g4, kept hb7 (lt_cell e4) e4⟩, kept hb7 (lt_cell d0) d0, kept hb7 (lt_cell d1) d1, kept hb7 (lt_cell d2) d2, kept hb7 (lt_cell d3) d3, kept hb7 (lt_cell d4) d4, kept hb7 (lt_cell d5) d5, kept hb7 (lt_cell d6) d6, kept hb7 (lt_cell d7) d7⟩) (fun hHeld => ?_)
              clear hK K
              try simp only [Act.put, List.setIfInBounds_toArray, List.set_cons_zero, List.set_cons_succ]
              refine Drawn.tk 16 (some 6) rfl rfl (by assumption) ?_
              try simp only [Act.put, List.setIfInBounds_toArray, List.set_cons_zero, List.set_cons_succ]
              refine wpAnyH_done (by kernel_rfl) ?_ _
              go_wp2_with fail
              go_ret
              exact ⟨ret_bool hX.out.symm, hwr.trans (hb7.mono hwr.size)⟩
      exfalso
      have h := hop2.out
      omega
end RefG
end Go.Proofs.Ytncmhenfgbcihaa
