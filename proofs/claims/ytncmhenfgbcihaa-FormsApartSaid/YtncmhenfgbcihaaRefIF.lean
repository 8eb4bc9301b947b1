/- The walk through crosswalkref6.ins. -/
import Derived.Test.YtncmhenfgbcihaaRefH
import Derived.Test.YtncmhenfgbcihaaDrawn
namespace Go.Proofs.Ytncmhenfgbcihaa
open Go.RowKit
set_option linter.unusedSimpArgs false
set_option linter.unusedVariables false
namespace RefG
open Num Rd D HierW FormW FormR

set_option maxRecDepth 100000 in
set_option maxHeartbeats 16000000 in
theorem insF (f : Fi) (m : Me) (i : Ins) (vf vm vi : Value) (w : World) (hf : VFi w w.heap.size vf f) (hm : VMe w w.heap.size vm m) (hi : VIns w w.heap.size vi i) (hr : 0 ≤ m.regs ∧ m.regs ≤ 90) (hop : i.op = 18) :
    Calls Try.prog 56 #[vf, vm, vi] w fun e w' => e = .returned (.bool (Rform.ins f m i)) ∧ Below w.heap.size w w' := by
  have hf0 := Lib.hid hf
  have hm0 := Lib.hid hm
  have hi0 := Lib.hid hi
  obtain ⟨vc, vme, rfl, ⟨ca, ccap, rfl, clc, ccc, cel⟩, ⟨ma, mcap, rfl, mlc, mcc, mel⟩⟩ := hf
  obtain ⟨vp, vcd, vh, rfl, ⟨okr, _, _, _, _⟩, _, ⟨da, dcap, rfl, dlc, dcc, _⟩, _⟩ := hm
  obtain ⟨va, rfl, ⟨oop, oa, ob, oc, on⟩, ⟨aa, acap, rfl, alc, acc, ael⟩⟩ := hi
  have oki := Lib.hid (show ∀ j, Ok (pick i.a i.b i.c j) from fun j => pick_ok j oa ob oc)
  have hnone := Lib.hid (Rform.ins_none (f := f) (m := m) (i := i))
  have hfokp := Lib.hid (fun k0 k1 k2 j h1 h2 => fok_pick (f := f) (m := m) (i := i) (k0 := k0) (k1 := k1) (k2 := k2) (j := j) h1 h2)
  have hop2 := Lib.hid hop
  clear hop
  obtain ⟨op, a, b, c, n, args⟩ := i
  simp only at *
  unfold Ok at oop oa ob oc on
  obtain ⟨hr1, hr2⟩ := hr
  have hr := Lib.hid (And.intro hr1 hr2)
  have cel2 := Lib.hid cel
  have mel2 := Lib.hid mel
  have ael2 := Lib.hid ael
  clear cel mel ael
  go_enter Try.func56, Try.ntmps56
  go_wp2_with fail
  refine (namedB w _ op ?_).mono ?_
  · exact (by repeat' (first | with_reducible exact Below.refl _ _ | with_reducible assumption | exact Nat.le_refl _ | with_reducible refine Go.Proofs.Ytncmhenfgbcihaa.Rd.below_drewN ?_ _ | with_reducible refine Below.alloc ?_ ?_ _ | with_reducible refine Below.setCell ?_ ?_ _ | with_reducible refine Below.drew ?_ | omega | (simp; omega) | (simp; done)))
  rintro e w1 ⟨hw1, hb1, ⟨hk, rfl⟩ | ⟨k0, k1, k2, kn, hk, rfl, hkn, e0, e1, e2⟩⟩
  · have hX := Lib.hid (hnone.out hk)
    clear hop2
    clear hk
    go_wp2_with fail
    go_ret
    exact ⟨ret_bool hX.out.symm, hw1⟩
  have hkk := Lib.hid hk
  clear hk
  simp at hkn
  have f0 : w1.cell? ⟨w.heap.size, 0, none⟩ = some (.slice ca f.classes.length ccap) := kept hb1 (by simp <;> omega) (by go_simp)
  have f1 : w1.cell? ⟨w.heap.size, 1, none⟩ = some (.slice ma f.methods.length mcap) := kept hb1 (by simp <;> omega) (by go_simp)
  have m0 : w1.cell? ⟨w.heap.size + 1, 0, none⟩ = some vp := kept hb1 (by simp <;> omega) (by go_simp)
  have m1 : w1.cell? ⟨w.heap.size + 1, 1, none⟩ = some (.int .i64 m.ret.kind) := kept hb1 (by simp <;> omega) (by go_simp)
  have m2 : w1.cell? ⟨w.heap.size + 1, 2, none⟩ = some (.int .i64 m.ret.cls) := kept hb1 (by simp <;> omega) (by go_simp)
  have m3 : w1.cell? ⟨w.heap.size + 1, 3, none⟩ = some (.int .i64 m.stack) := kept hb1 (by simp <;> omega) (by go_simp)
  have m4 : w1.cell? ⟨w.heap.size + 1, 4, none⟩ = some (.int .i64 m.locals) := kept hb1 (by simp <;> omega) (by go_simp)
  have m5 : w1.cell? ⟨w.heap.size + 1, 5, none⟩ = some (.int .i64 m.regs) := kept hb1 (by simp <;> omega) (by go_simp)
  have m6 : w1.cell? ⟨w.heap.size + 1, 6, none⟩ = some (.slice da m.code.length dcap) := kept hb1 (by simp <;> omega) (by go_simp)
  have m7 : w1.cell? ⟨w.heap.size + 1, 7, none⟩ = some vh := kept hb1 (by simp <;> omega) (by go_simp)
  have x0 : w1.cell? ⟨w.heap.size + 1 + 1, 0, none⟩ = some (.int .i64 op) := kept hb1 (by simp <;> omega) (by go_simp)
  have x1 : w1.cell? ⟨w.heap.size + 1 + 1, 1, none⟩ = some (.int .i64 a) := kept hb1 (by simp <;> omega) (by go_simp)
  have x2 : w1.cell? ⟨w.heap.size + 1 + 1, 2, none⟩ = some (.int .i64 b) := kept hb1 (by simp <;> omega) (by go_simp)
  have x3 : w1.cell? ⟨w.heap.size + 1 + 1, 3, none⟩ = some (.int .i64 c) := kept hb1 (by simp <;> omega) (by go_simp)
  have x4 : w1.cell? ⟨w.heap.size + 1 + 1, 4, none⟩ = some (.int .i64 n) := kept hb1 (by simp <;> omega) (by go_simp)
  have x5 : w1.cell? ⟨w.heap.size + 1 + 1, 5, none⟩ = some (.slice aa args.length acap) := kept hb1 (by simp <;> omega) (by go_simp)
  have hws : w.heap.size + 3 ≤ w1.heap.size := by have := hb1.size; simp at this; omega
  have hkl := lt_cell e0
  clear hb1
  go_wp2_with fail
  refine name_world (fun W => Below w1.heap.size w1 W ∧ W.heap.size = w1.heap.size + 1 ∧ W.cell? ⟨w1.heap.size, 0, none⟩ = some (.int .i64 a) ∧ W.cell? ⟨w1.heap.size, 1, none⟩ = some (.int .i64 b) ∧ W.cell? ⟨w1.heap.size, 2, none⟩ = some (.int .i64 c)) ?_ ?_
  · refine ⟨(by repeat' (first | with_reducible exact Below.refl _ _ | with_reducible assumption | exact Nat.le_refl _ | with_reducible refine Go.Proofs.Ytncmhenfgbcihaa.Rd.below_drewN ?_ _ | with_reducible refine Below.alloc ?_ ?_ _ | with_reducible refine Below.setCell ?_ ?_ _ | with_reducible refine Below.drew ?_ | omega | (simp; omega) | (simp; done))), ?_, ?_, ?_, ?_⟩
    all_goals go_simp
  rintro W ⟨hbW, hWs, a0, a1, a2⟩
  have hWs2 := Lib.hid hWs
  have hWs3 : w1.heap.size < W.heap.size := by omega
  clear hWs
  go_loopw [10] (fun i wr => ∃ j : Nat, j ≤ 3 ∧ i = .int .i64 j ∧ Below W.heap.size W wr ∧ Hid (∀ t, t < j → Rform.fok m.regs (pick k0 k1 k2 t) (pick a b c t) = true)) (fun i _ => 3 - (intOf i).toNat)
  case atStart => exact ⟨0, by omega, rfl, Below.refl _ _, fun t h => absurd h (by omega)⟩
  case round =>
    obtain ⟨j, hj, rfl, hq, hall⟩ := hrel
    have hqs := hq.size
    have hwr : Below w.heap.size w wr := hw1.trans ((hbW.trans (hq.mono (by omega))).mono (by omega))
    by_cases hlt : j < 3
    · have cK := kept hq (by omega) (kept hbW hkl (cell_pick hlt e0 e1 e2))
      have cF := kept hq (by omega) (cell_pick hlt a0 a1 a2)
      have hno := Lib.hid (fun h => hfokp.out k0 k1 k2 j hkk.out h)
      obtain ⟨kx, hkx⟩ : ∃ kx, Hid (pick k0 k1 k2 j = kx) := ⟨_, rfl⟩
      obtain ⟨F, hF⟩ : ∃ F, Hid (pick a b c j = F) := ⟨_, rfl⟩
      have hyes : Hid (Rform.fok m.regs kx F = true → ∀ t, t < j + 1 → Rform.fok m.regs (pick k0 k1 k2 t) (pick a b c t) = true) := by
        intro h t ht
        by_cases e : t = j
        · subst e; rw [hkx.out, hF.out]; exact h
        · exact hall.out t (by omega)
      rw [hkx.out] at cK hno
      rw [hF.out] at cF hno
      have hOF : Ok F := by rw [← hF.out]; exact oki.out j
      have hI0 : (0 : Int) ≤ (j : Int) ∧ (j : Int) < 3 := ⟨by omega, by omega⟩
      have hI1 : (j : Int) < 3 := by omega
      have d0 := kept hq (by omega) (kept hbW (by omega) m0)
      have d1 := kept hq (by omega) (kept hbW (by omega) m1)
      have d2 := kept hq (by omega) (kept hbW (by omega) m2)
      have d3 := kept hq (by omega) (kept hbW (by omega) m3)
      have d4 := kept hq (by omega) (kept hbW (by omega) m4)
      have d5 := kept hq (by omega) (kept hbW (by omega) m5)
      have d6 := kept hq (by omega) (kept hbW (by omega) m6)
      have d7 := kept hq (by omega) (kept hbW (by omega) m7)
      clear e0 e1 e2 a0 a1 a2 f0 f1 m0 m1 m2 m3 m4 m5 m6 m7 x0 x1 x2 x3 x4 x5
      by_cases z0 : kx = 0
      · subst z0
        by_cases z1 : F = 0
        · subst z1
          have hfk : Hid (Rform.fok m.regs 0 0 = true) := by show _ = _; simp [Rform.fok]
          go_wp2_with fail
          refine wp_region_held_drew (S := fun w' => w'.cell? ⟨kn, j, none⟩ = some (.int .i64 0) ∧ w'.cell? ⟨w1.heap.size, j, none⟩ = some (.int .i64 0)) (by kernel_rfl) (by (try dsimp only); first | exact ⟨cK, cF⟩ | go_keep) (fun hHeld => ?_)
          refine Drawn.take (i := 0) (d := some 33) (v := ?v0) rfl rfl (by kernel_rfl) (by kernel_rfl) (by kernel_rfl) (fun _ _ _ h => h) (by rfl) ?hy0 (by assumption) ?rest0
          case hy0 => (intro w hSw; (try dsimp only at hSw); go_simp; try with_reducible rfl)
          case' rest0 => try simp only [Act.put, List.setIfInBounds_toArray, List.set_cons_zero, List.set_cons_succ]
          refine Drawn.take (i := 1) (d := some 34) (v := ?v1) rfl rfl (by kernel_rfl) (by kernel_rfl) (by kernel_rfl) (fun _ _ _ h => h) (by rfl) ?hy1 (by assumption) ?rest1
          case hy1 => (intro w hSw; (try dsimp only at hSw); go_simp; try with_reducible rfl)
          case' rest1 => try simp only [Act.put, List.setIfInBounds_toArray, List.set_cons_zero, List.set_cons_succ]
          refine Drawn.take (i := 2) (d := some 35) (v := ?v2) rfl rfl (by kernel_rfl) (by kernel_rfl) (by kernel_rfl) (fun _ _ _ h => h) (by rfl) ?hy2 (by assumption) ?rest2
          case hy2 => (intro w hSw; (try dsimp only at hSw); go_simp; try with_reducible rfl)
          case' rest2 => try simp only [Act.put, List.setIfInBounds_toArray, List.set_cons_zero, List.set_cons_succ]
          refine Drawn.take (i := 3) (d := some 36) (v := ?v3) rfl rfl (by kernel_rfl) (by kernel_rfl) (by kernel_rfl) (fun _ _ _ h => h) (by rfl) ?hy3 (by assumption) ?rest3
          case hy3 => (intro w hSw; (try dsimp only at hSw); go_simp; try with_reducible rfl)
          case' rest3 => try simp only [Act.put, List.setIfInBounds_toArray, List.set_cons_zero, List.set_cons_succ]
          refine Drawn.take (i := 4) (d := some 37) (v := ?v4) rfl rfl (by kernel_rfl) (by kernel_rfl) (by kernel_rfl) (fun _ _ _ h => h) (by rfl) ?hy4 (by assumption) ?rest4
          case hy4 => (intro w hSw; (try dsimp only at hSw); go_simp; try with_reducible rfl)
          case' rest4 => try simp only [Act.put, List.setIfInBounds_toArray, List.set_cons_zero, List.set_cons_succ]
          refine Drawn.take (i := 5) (d := some 38) (v := ?v5) rfl rfl (by kernel_rfl) (by kernel_rfl) (by kernel_rfl) (fun _ _ _ h => h) (by rfl) ?hy5 (by assumption) ?rest5
          case hy5 => (intro w hSw; (try dsimp only at hSw); go_simp; try with_reducible rfl)
          case' rest5 => try simp only [Act.put, List.setIfInBounds_toArray, List.set_cons_zero, List.set_cons_succ]
          refine Drawn.take (i := 6) (d := some 39) (v := ?v6) rfl rfl (by kernel_rfl) (by kernel_rfl) (by kernel_rfl) (fun _ _ _ h => h) (by rfl) ?hy6 (by assumption) ?rest6
          case hy6 => (intro w hSw; (try dsimp only at hSw); go_simp; try with_reducible rfl)
          case' rest6 => try simp only [Act.put, List.setIfInBounds_toArray, List.set_cons_zero, List.set_cons_succ]
          refine Drawn.take (i := 7) (d := some 40) (v := ?v7) rfl rfl (by kernel_rfl) (by kernel_rfl) (by kernel_rfl) (fun _ _ _ h => h) (by rfl) ?hy7 (by assumption) ?rest7
          case hy7 => (intro w hSw; (try dsimp only at hSw); go_simp; try with_reducible rfl)
          case' rest7 => try simp only [Act.put, List.setIfInBounds_toArray, List.set_cons_zero, List.set_cons_succ]
          refine Drawn.take (i := 8) (d := some 41) (v := ?v8) rfl rfl (by kernel_rfl) (by kernel_rfl) (by kernel_rfl) (fun _ _ _ h => h) (by rfl) ?hy8 (by assumption) ?rest8
          case hy8 => (intro w hSw; (try dsimp only at hSw); go_simp; try with_reducible rfl)
          case' rest8 => try simp only [Act.put, List.setIfInBounds_toArray, List.set_cons_zero, List.set_cons_succ]
          refine Drawn.take (i := 9) (d := some 42) (v := ?v9) rfl rfl (by kernel_rfl) (by kernel_rfl) (by kernel_rfl) (fun _ _ _ h => h) (by rfl) ?hy9 (by assumption) ?rest9
          case hy9 => (intro w hSw; (try dsimp only at hSw); go_simp; try with_reducible rfl)
          case' rest9 => try simp only [Act.put, List.setIfInBounds_toArray, List.set_cons_zero, List.set_cons_succ]
          refine Drawn.take (i := 10) (d := some 43) (v := ?v10) rfl rfl (by kernel_rfl) (by kernel_rfl) (by kernel_rfl) (fun _ _ _ h => h) (by rfl) ?hy10 (by assumption) ?rest10
          case hy10 => (intro w hSw; (try dsimp only at hSw); go_simp; try with_reducible rfl)
          case' rest10 => try simp only [Act.put, List.setIfInBounds_toArray, List.set_cons_zero, List.set_cons_succ]
          refine Drawn.take (i := 11) (d := some 44) (v := ?v11) rfl rfl (by kernel_rfl) (by kernel_rfl) (by kernel_rfl) (fun _ _ _ h => h) (by rfl) ?hy11 (by assumption) ?rest11
          case hy11 => (intro w hSw; (try dsimp only at hSw); go_simp; try with_reducible rfl)
          case' rest11 => try simp only [Act.put, List.setIfInBounds_toArray, List.set_cons_zero, List.set_cons_succ]
          refine Drawn.take (i := 12) (d := some 45) (v := ?v12) rfl rfl (by kernel_rfl) (by kernel_rfl) (by kernel_rfl) (fun _ _ _ h => h) (by rfl) ?hy12 (by assumption) ?rest12
          case hy12 => (intro w hSw; (try dsimp only at hSw); go_simp; try with_reducible rfl)
          case' rest12 => try simp only [Act.put, List.setIfInBounds_toArray, List.set_cons_zero, List.set_cons_succ]
          refine Drawn.take (i := 13) (d := some 46) (v := ?v13) rfl rfl (by kernel_rfl) (by kernel_rfl) (by kernel_rfl) (fun _ _ _ h => h) (by rfl) ?hy13 (by assumption) ?rest13
          case hy13 => (intro w hSw; (try dsimp only at hSw); go_simp; try with_reducible rfl)
          case' rest13 => try simp only [Act.put, List.setIfInBounds_toArray, List.set_cons_zero, List.set_cons_succ]
          refine Drawn.take (i := 14) (d := some 47) (v := ?v14) rfl rfl (by kernel_rfl) (by kernel_rfl) (by kernel_rfl) (fun _ _ _ h => h) (by rfl) ?hy14 (by assumption) ?rest14
          case hy14 => (intro w hSw; (try dsimp only at hSw); go_simp; try with_reducible rfl)
          case' rest14 => try simp only [Act.put, List.setIfInBounds_toArray, List.set_cons_zero, List.set_cons_succ]
          refine Drawn.take (i := 15) (d := some 48) (v := ?v15) rfl rfl (by kernel_rfl) (by kernel_rfl) (by kernel_rfl) (fun _ _ _ h => h) (by rfl) ?hy15 (by assumption) ?rest15
          case hy15 => (intro w hSw; (try dsimp only at hSw); go_simp; try with_reducible rfl)
          case' rest15 => try simp only [Act.put, List.setIfInBounds_toArray, List.set_cons_zero, List.set_cons_succ]
          refine Drawn.take (i := 16) (d := some 49) (v := ?v16) rfl rfl (by kernel_rfl) (by kernel_rfl) (by kernel_rfl) (fun _ _ _ h => h) (by rfl) ?hy16 (by assumption) ?rest16
          case hy16 => (intro w hSw; (try dsimp only at hSw); go_simp; try with_reducible rfl)
          case' rest16 => try simp only [Act.put, List.setIfInBounds_toArray, List.set_cons_zero, List.set_cons_succ]
          refine Drawn.take (i := 17) (d := some 50) (v := ?v17) rfl rfl (by kernel_rfl) (by kernel_rfl) (by kernel_rfl) (fun _ _ _ h => h) (by rfl) ?hy17 (by assumption) ?rest17
          case hy17 => (intro w hSw; (try dsimp only at hSw); go_simp; try with_reducible rfl)
          case' rest17 => try simp only [Act.put, List.setIfInBounds_toArray, List.set_cons_zero, List.set_cons_succ]
          refine Drawn.take (i := 18) (d := some 51) (v := ?v18) rfl rfl (by kernel_rfl) (by kernel_rfl) (by kernel_rfl) (fun _ _ _ h => h) (by rfl) ?hy18 (by assumption) ?rest18
          case hy18 => (intro w hSw; (try dsimp only at hSw); go_simp; try with_reducible rfl)
          case' rest18 => try simp only [Act.put, List.setIfInBounds_toArray, List.set_cons_zero, List.set_cons_succ]
          refine Drawn.pass (i := 19) (d := some 52) rfl rfl (by kernel_rfl) (by kernel_rfl) (by kernel_rfl) (fun _ _ _ h => h) (by rfl) (by assumption) ?rest146
          case' rest146 => try simp only [Act.put, List.setIfInBounds_toArray, List.set_cons_zero, List.set_cons_succ]
          refine Drawn.pass (i := 20) (d := some 53) rfl rfl (by kernel_rfl) (by kernel_rfl) (by kernel_rfl) (fun _ _ _ h => h) (by rfl) (by assumption) ?rest147
          case' rest147 => try simp only [Act.put, List.setIfInBounds_toArray, List.set_cons_zero, List.set_cons_succ]
          refine Drawn.pass (i := 21) (d := some 54) rfl rfl (by kernel_rfl) (by kernel_rfl) (by kernel_rfl) (fun _ _ _ h => h) (by rfl) (by assumption) ?rest148
          case' rest148 => try simp only [Act.put, List.setIfInBounds_toArray, List.set_cons_zero, List.set_cons_succ]
          refine Drawn.pass (i := 22) (d := some 55) rfl rfl (by kernel_rfl) (by kernel_rfl) (by kernel_rfl) (fun _ _ _ h => h) (by rfl) (by assumption) ?rest149
          case' rest149 => try simp only [Act.put, List.setIfInBounds_toArray, List.set_cons_zero, List.set_cons_succ]
          refine Drawn.pass (i := 23) (d := some 56) rfl rfl (by kernel_rfl) (by kernel_rfl) (by kernel_rfl) (fun _ _ _ h => h) (by rfl) (by assumption) ?rest150
          case' rest150 => try simp only [Act.put, List.setIfInBounds_toArray, List.set_cons_zero, List.set_cons_succ]
          refine Drawn.pass (i := 24) (d := some 57) rfl rfl (by kernel_rfl) (by kernel_rfl) (by kernel_rfl) (fun _ _ _ h => h) (by rfl) (by assumption) ?rest151
          case' rest151 => try simp only [Act.put, List.setIfInBounds_toArray, List.set_cons_zero, List.set_cons_succ]
          refine Drawn.pass (i := 25) (d := some 58) rfl rfl (by kernel_rfl) (by kernel_rfl) (by kernel_rfl) (fun _ _ _ h => h) (by rfl) (by assumption) ?rest152
          case' rest152 => try simp only [Act.put, List.setIfInBounds_toArray, List.set_cons_zero, List.set_cons_succ]
          refine Drawn.pass (i := 26) (d := some 59) rfl rfl (by kernel_rfl) (by kernel_rfl) (by kernel_rfl) (fun _ _ _ h => h) (by rfl) (by assumption) ?rest153
          case' rest153 => try simp only [Act.put, List.setIfInBounds_toArray, List.set_cons_zero, List.set_cons_succ]
          refine Drawn.pass (i := 27) (d := some 60) rfl rfl (by kernel_rfl) (by kernel_rfl) (by kernel_rfl) (fun _ _ _ h => h) (by rfl) (by assumption) ?rest154
          case' rest154 => try simp only [Act.put, List.setIfInBounds_toArray, List.set_cons_zero, List.set_cons_succ]
          refine Drawn.pass (i := 28) (d := some 61) rfl rfl (by kernel_rfl) (by kernel_rfl) (by kernel_rfl) (fun _ _ _ h => h) (by rfl) (by assumption) ?rest155
          case' rest155 => try simp only [Act.put, List.setIfInBounds_toArray, List.set_cons_zero, List.set_cons_succ]
          refine Drawn.pass (i := 29) (d := some 62) rfl rfl (by kernel_rfl) (by kernel_rfl) (by kernel_rfl) (fun _ _ _ h => h) (by rfl) (by assumption) ?rest156
          case' rest156 => try simp only [Act.put, List.setIfInBounds_toArray, List.set_cons_zero, List.set_cons_succ]
          refine Drawn.take (i := 30) (d := some 63) (v := ?v19) rfl rfl (by kernel_rfl) (by kernel_rfl) (by kernel_rfl) (fun _ _ _ h => h) (by rfl) ?hy19 (by assumption) ?rest19
          case hy19 => (intro w hSw; (try dsimp only at hSw); go_simp; try with_reducible rfl)
          case' rest19 => try simp only [Act.put, List.setIfInBounds_toArray, List.set_cons_zero, List.set_cons_succ]
          refine Drawn.take (i := 31) (d := some 64) (v := ?v20) rfl rfl (by kernel_rfl) (by kernel_rfl) (by kernel_rfl) (fun _ _ _ h => h) (by rfl) ?hy20 (by assumption) ?rest20
          case hy20 => (intro w hSw; (try dsimp only at hSw); go_simp; try with_reducible rfl)
          case' rest20 => try simp only [Act.put, List.setIfInBounds_toArray, List.set_cons_zero, List.set_cons_succ]
          refine wpAnyH_done (by kernel_rfl) ?_ _
          go_wp2_with fail
          go_roundw
          case rel => exact ⟨j + 1, by omega, by go_num, hq.trans (Below.drew (Below.refl _ _)), hyes.out hfk.out⟩
          case measure => simp [intOf]; omega
        · have hfk : Hid (Rform.fok m.regs 0 F = false) := by show _ = _; simp [Rform.fok, z1]
          have z1' : (F != 0) = true := by simpa using z1
          clear z1
          go_wp2_with fail
          refine wp_region_held_drew (S := fun w' => w'.cell? ⟨kn, j, none⟩ = some (.int .i64 0) ∧ w'.cell? ⟨w1.heap.size, j, none⟩ = some (.int .i64 F)) (by kernel_rfl) (by (try dsimp only); first | exact ⟨cK, cF⟩ | go_keep) (fun hHeld => ?_)
          refine Drawn.take (i := 0) (d := some 33) (v := ?v21) rfl rfl (by kernel_rfl) (by kernel_rfl) (by kernel_rfl) (fun _ _ _ h => h) (by rfl) ?hy21 (by assumption) ?rest21
          case hy21 => (intro w hSw; (try dsimp only at hSw); go_simp; try with_reducible rfl)
          case' rest21 => try simp only [Act.put, List.setIfInBounds_toArray, List.set_cons_zero, List.set_cons_succ]
          refine Drawn.take (i := 1) (d := some 34) (v := ?v22) rfl rfl (by kernel_rfl) (by kernel_rfl) (by kernel_rfl) (fun _ _ _ h => h) (by rfl) ?hy22 (by assumption) ?rest22
          case hy22 => (intro w hSw; (try dsimp only at hSw); go_simp; try with_reducible rfl)
          case' rest22 => try simp only [Act.put, List.setIfInBounds_toArray, List.set_cons_zero, List.set_cons_succ]
          refine Drawn.take (i := 2) (d := some 35) (v := ?v23) rfl rfl (by kernel_rfl) (by kernel_rfl) (by kernel_rfl) (fun _ _ _ h => h) (by rfl) ?hy23 (by assumption) ?rest23
          case hy23 => (intro w hSw; (try dsimp only at hSw); go_simp; try with_reducible rfl)
          case' rest23 => try simp only [Act.put, List.setIfInBounds_toArray, List.set_cons_zero, List.set_cons_succ]
          refine Drawn.take (i := 3) (d := some 36) (v := ?v24) rfl rfl (by kernel_rfl) (by kernel_rfl) (by kernel_rfl) (fun _ _ _ h => h) (by rfl) ?hy24 (by assumption) ?rest24
          case hy24 => (intro w hSw; (try dsimp only at hSw); go_simp; try with_reducible rfl)
          case' rest24 => try simp only [Act.put, List.setIfInBounds_toArray, List.set_cons_zero, List.set_cons_succ]
          refine Drawn.take (i := 4) (d := some 37) (v := ?v25) rfl rfl (by kernel_rfl) (by kernel_rfl) (by kernel_rfl) (fun _ _ _ h => h) (by rfl) ?hy25 (by assumption) ?rest25
          case hy25 => (intro w hSw; (try dsimp only at hSw); go_simp; try with_reducible rfl)
          case' rest25 => try simp only [Act.put, List.setIfInBounds_toArray, List.set_cons_zero, List.set_cons_succ]
          refine Drawn.take (i := 5) (d := some 38) (v := ?v26) rfl rfl (by kernel_rfl) (by kernel_rfl) (by kernel_rfl) (fun _ _ _ h => h) (by rfl) ?hy26 (by assumption) ?rest26
          case hy26 => (intro w hSw; (try dsimp only at hSw); go_simp; try with_reducible rfl)
          case' rest26 => try simp only [Act.put, List.setIfInBounds_toArray, List.set_cons_zero, List.set_cons_succ]
          refine Drawn.take (i := 6) (d := some 39) (v := ?v27) rfl rfl (by kernel_rfl) (by kernel_rfl) (by kernel_rfl) (fun _ _ _ h => h) (by rfl) ?hy27 (by assumption) ?rest27
          case hy27 => (intro w hSw; (try dsimp only at hSw); go_simp; try with_reducible rfl)
          case' rest27 => try simp only [Act.put, List.setIfInBounds_toArray, List.set_cons_zero, List.set_cons_succ]
          refine Drawn.take (i := 7) (d := some 40) (v := ?v28) rfl rfl (by kernel_rfl) (by kernel_rfl) (by kernel_rfl) (fun _ _ _ h => h) (by rfl) ?hy28 (by assumption) ?rest28
          case hy28 => (intro w hSw; (try dsimp only at hSw); go_simp; try with_reducible rfl)
          case' rest28 => try simp only [Act.put, List.setIfInBounds_toArray, List.set_cons_zero, List.set_cons_succ]
          refine Drawn.take (i := 8) (d := some 41) (v := ?v29) rfl rfl (by kernel_rfl) (by kernel_rfl) (by kernel_rfl) (fun _ _ _ h => h) (by rfl) ?hy29 (by assumption) ?rest29
          case hy29 => (intro w hSw; (try dsimp only at hSw); go_simp; try with_reducible rfl)
          case' rest29 => try simp only [Act.put, List.setIfInBounds_toArray, List.set_cons_zero, List.set_cons_succ]
          refine Drawn.take (i := 9) (d := some 42) (v := ?v30) rfl rfl (by kernel_rfl) (by kernel_rfl) (by kernel_rfl) (fun _ _ _ h => h) (by rfl) ?hy30 (by assumption) ?rest30
          case hy30 => (intro w hSw; (try dsimp only at hSw); go_simp; try with_reducible rfl)
          case' rest30 => try simp only [Act.put, List.setIfInBounds_toArray, List.set_cons_zero, List.set_cons_succ]
          refine Drawn.take (i := 10) (d := some 43) (v := ?v31) rfl rfl (by kernel_rfl) (by kernel_rfl) (by kernel_rfl) (fun _ _ _ h => h) (by rfl) ?hy31 (by assumption) ?rest31
          case hy31 => (intro w hSw; (try dsimp only at hSw); go_simp; try with_reducible rfl)
          case' rest31 => try simp only [Act.put, List.setIfInBounds_toArray, List.set_cons_zero, List.set_cons_succ]
          refine Drawn.take (i := 11) (d := some 44) (v := ?v32) rfl rfl (by kernel_rfl) (by kernel_rfl) (by kernel_rfl) (fun _ _ _ h => h) (by rfl) ?hy32 (by assumption) ?rest32
          case hy32 => (intro w hSw; (try dsimp only at hSw); go_simp; try with_reducible rfl)
          case' rest32 => try simp only [Act.put, List.setIfInBounds_toArray, List.set_cons_zero, List.set_cons_succ]
          refine Drawn.take (i := 12) (d := some 45) (v := ?v33) rfl rfl (by kernel_rfl) (by kernel_rfl) (by kernel_rfl) (fun _ _ _ h => h) (by rfl) ?hy33 (by assumption) ?rest33
          case hy33 => (intro w hSw; (try dsimp only at hSw); go_simp; try with_reducible rfl)
          case' rest33 => try simp only [Act.put, List.setIfInBounds_toArray, List.set_cons_zero, List.set_cons_succ]
          refine Drawn.pass (i := 13) (d := some 46) rfl rfl (by kernel_rfl) (by kernel_rfl) (by kernel_rfl) (fun _ _ _ h => h) (by rfl) (by assumption) ?rest157
          case' rest157 => try simp only [Act.put, List.setIfInBounds_toArray, List.set_cons_zero, List.set_cons_succ]
          refine Drawn.pass (i := 14) (d := some 47) rfl rfl (by kernel_rfl) (by kernel_rfl) (by kernel_rfl) (fun _ _ _ h => h) (by rfl) (by assumption) ?rest158
          case' rest158 => try simp only [Act.put, List.setIfInBounds_toArray, List.set_cons_zero, List.set_cons_succ]
          refine Drawn.pass (i := 15) (d := some 48) rfl rfl (by kernel_rfl) (by kernel_rfl) (by kernel_rfl) (fun _ _ _ h => h) (by rfl) (by assumption) ?rest159
          case' rest159 => try simp only [Act.put, List.setIfInBounds_toArray, List.set_cons_zero, List.set_cons_succ]
          refine Drawn.pass (i := 16) (d := some 49) rfl rfl (by kernel_rfl) (by kernel_rfl) (by kernel_rfl) (fun _ _ _ h => h) (by rfl) (by assumption) ?rest160
          case' rest160 => try simp only [Act.put, List.setIfInBounds_toArray, List.set_cons_zero, List.set_cons_succ]
          refine Drawn.pass (i := 17) (d := some 50) rfl rfl (by kernel_rfl) (by kernel_rfl) (by kernel_rfl) (fun _ _ _ h => h) (by rfl) (by assumption) ?rest161
          case' rest161 => try simp only [Act.put, List.setIfInBounds_toArray, List.set_cons_zero, List.set_cons_succ]
          refine Drawn.pass (i := 18) (d := some 51) rfl rfl (by kernel_rfl) (by kernel_rfl) (by kernel_rfl) (fun _ _ _ h => h) (by rfl) (by assumption) ?rest162
          case' rest162 => try simp only [Act.put, List.setIfInBounds_toArray, List.set_cons_zero, List.set_cons_succ]
          refine Drawn.pass (i := 19) (d := some 52) rfl rfl (by kernel_rfl) (by kernel_rfl) (by kernel_rfl) (fun _ _ _ h => h) (by rfl) (by assumption) ?rest163
          case' rest163 => try simp only [Act.put, List.setIfInBounds_toArray, List.set_cons_zero, List.set_cons_succ]
          refine Drawn.pass (i := 20) (d := some 53) rfl rfl (by kernel_rfl) (by kernel_rfl) (by kernel_rfl) (fun _ _ _ h => h) (by rfl) (by assumption) ?rest164
          case' rest164 => try simp only [Act.put, List.setIfInBounds_toArray, List.set_cons_zero, List.set_cons_succ]
          refine Drawn.pass (i := 21) (d := some 54) rfl rfl (by kernel_rfl) (by kernel_rfl) (by kernel_rfl) (fun _ _ _ h => h) (by rfl) (by assumption) ?rest165
          case' rest165 => try simp only [Act.put, List.setIfInBounds_toArray, List.set_cons_zero, List.set_cons_succ]
          refine Drawn.pass (i := 22) (d := some 55) rfl rfl (by kernel_rfl) (by kernel_rfl) (by kernel_rfl) (fun _ _ _ h => h) (by rfl) (by assumption) ?rest166
          case' rest166 => try simp only [Act.put, List.setIfInBounds_toArray, List.set_cons_zero, List.set_cons_succ]
          refine Drawn.pass (i := 23) (d := some 56) rfl rfl (by kernel_rfl) (by kernel_rfl) (by kernel_rfl) (fun _ _ _ h => h) (by rfl) (by assumption) ?rest167
          case' rest167 => try simp only [Act.put, List.setIfInBounds_toArray, List.set_cons_zero, List.set_cons_succ]
          refine Drawn.pass (i := 24) (d := some 57) rfl rfl (by kernel_rfl) (by kernel_rfl) (by kernel_rfl) (fun _ _ _ h => h) (by rfl) (by assumption) ?rest168
          case' rest168 => try simp only [Act.put, List.setIfInBounds_toArray, List.set_cons_zero, List.set_cons_succ]
          refine Drawn.pass (i := 25) (d := some 58) rfl rfl (by kernel_rfl) (by kernel_rfl) (by kernel_rfl) (fun _ _ _ h => h) (by rfl) (by assumption) ?rest169
          case' rest169 => try simp only [Act.put, List.setIfInBounds_toArray, List.set_cons_zero, List.set_cons_succ]
          refine Drawn.pass (i := 26) (d := some 59) rfl rfl (by kernel_rfl) (by kernel_rfl) (by kernel_rfl) (fun _ _ _ h => h) (by rfl) (by assumption) ?rest170
          case' rest170 => try simp only [Act.put, List.setIfInBounds_toArray, List.set_cons_zero, List.set_cons_succ]
          refine Drawn.pass (i := 27) (d := some 60) rfl rfl (by kernel_rfl) (by kernel_rfl) (by kernel_rfl) (fun _ _ _ h => h) (by rfl) (by assumption) ?rest171
          case' rest171 => try simp only [Act.put, List.setIfInBounds_toArray, List.set_cons_zero, List.set_cons_succ]
          refine Drawn.pass (i := 28) (d := some 61) rfl rfl (by kernel_rfl) (by kernel_rfl) (by kernel_rfl) (fun _ _ _ h => h) (by rfl) (by assumption) ?rest172
          case' rest172 => try simp only [Act.put, List.setIfInBounds_toArray, List.set_cons_zero, List.set_cons_succ]
          refine Drawn.pass (i := 29) (d := some 62) rfl rfl (by kernel_rfl) (by kernel_rfl) (by kernel_rfl) (fun _ _ _ h => h) (by rfl) (by assumption) ?rest173
          case' rest173 => try simp only [Act.put, List.setIfInBounds_toArray, List.set_cons_zero, List.set_cons_succ]
          refine Drawn.pass (i := 30) (d := some 63) rfl rfl (by kernel_rfl) (by kernel_rfl) (by kernel_rfl) (fun _ _ _ h => h) (by rfl) (by assumption) ?rest174
          case' rest174 => try simp only [Act.put, List.setIfInBounds_toArray, List.set_cons_zero, List.set_cons_succ]
          refine Drawn.take (i := 31) (d := some 64) (v := ?v34) rfl rfl (by kernel_rfl) (by kernel_rfl) (by kernel_rfl) (fun _ _ _ h => h) (by rfl) ?hy34 (by assumption) ?rest34
          case hy34 => (intro w hSw; (try dsimp only at hSw); go_simp; try with_reducible rfl)
          case' rest34 => try simp only [Act.put, List.setIfInBounds_toArray, List.set_cons_zero, List.set_cons_succ]
          refine wpAnyH_done (by kernel_rfl) ?_ _
          go_wp2_with fail
          go_ret
          exact ⟨ret_bool (hno.out hfk.out).symm, hwr.drew⟩
      · have z0' : (kx == 0) = false := by simpa using z0
        by_cases z2 : 0 < kx
        · obtain ⟨p, hp⟩ : ∃ p, Hid (Rform.reg m.regs F kx = p) := ⟨_, rfl⟩
          have hfk : Hid (Rform.fok m.regs kx F = p) := by show _ = _; rw [← hp.out]; simp [Rform.fok, z0, z2]
          have zb : decide (0 < kx) = true := decide_eq_true z2
          clear z0
          go_wp2_with fail
          refine wp_region_held_drew (S := fun w' => (w'.cell? ⟨kn, j, none⟩ = some (.int .i64 kx) ∧ w'.cell? ⟨w1.heap.size, j, none⟩ = some (.int .i64 F)) ∧ w'.cell? ⟨w.heap.size + 1, 0, none⟩ = some vp ∧ w'.cell? ⟨w.heap.size + 1, 1, none⟩ = some (.int .i64 m.ret.kind) ∧ w'.cell? ⟨w.heap.size + 1, 2, none⟩ = some (.int .i64 m.ret.cls) ∧ w'.cell? ⟨w.heap.size + 1, 3, none⟩ = some (.int .i64 m.stack) ∧ w'.cell? ⟨w.heap.size + 1, 4, none⟩ = some (.int .i64 m.locals) ∧ w'.cell? ⟨w.heap.size + 1, 5, none⟩ = some (.int .i64 m.regs) ∧ w'.cell? ⟨w.heap.size + 1, 6, none⟩ = some (.slice da m.code.length dcap) ∧ w'.cell? ⟨w.heap.size + 1, 7, none⟩ = some vh) (by kernel_rfl) (by (try dsimp only); first | exact ⟨⟨cK, cF⟩, d0, d1, d2, d3, d4, d5, d6, d7⟩ | go_keep) (fun hHeld => ?_)
          refine Drawn.take (i := 0) (d := some 33) (v := ?v35) rfl rfl (by kernel_rfl) (by kernel_rfl) (by kernel_rfl) (fun _ _ _ h => h) (by rfl) ?hy35 (by assumption) ?rest35
          case hy35 => (intro w hSw; (try dsimp only at hSw); go_simp; try with_reducible rfl)
          case' rest35 => try simp only [Act.put, List.setIfInBounds_toArray, List.set_cons_zero, List.set_cons_succ]
          refine Drawn.take (i := 1) (d := some 34) (v := ?v36) rfl rfl (by kernel_rfl) (by kernel_rfl) (by kernel_rfl) (fun _ _ _ h => h) (by rfl) ?hy36 (by assumption) ?rest36
          case hy36 => (intro w hSw; (try dsimp only at hSw); go_simp; try with_reducible rfl)
          case' rest36 => try simp only [Act.put, List.setIfInBounds_toArray, List.set_cons_zero, List.set_cons_succ]
          refine Drawn.take (i := 2) (d := some 35) (v := ?v37) rfl rfl (by kernel_rfl) (by kernel_rfl) (by kernel_rfl) (fun _ _ _ h => h) (by rfl) ?hy37 (by assumption) ?rest37
          case hy37 => (intro w hSw; (try dsimp only at hSw); go_simp; try with_reducible rfl)
          case' rest37 => try simp only [Act.put, List.setIfInBounds_toArray, List.set_cons_zero, List.set_cons_succ]
          refine Drawn.take (i := 3) (d := some 36) (v := ?v38) rfl rfl (by kernel_rfl) (by kernel_rfl) (by kernel_rfl) (fun _ _ _ h => h) (by rfl) ?hy38 (by assumption) ?rest38
          case hy38 => (intro w hSw; (try dsimp only at hSw); go_simp; try with_reducible rfl)
          case' rest38 => try simp only [Act.put, List.setIfInBounds_toArray, List.set_cons_zero, List.set_cons_succ]
          refine Drawn.take (i := 4) (d := some 37) (v := ?v39) rfl rfl (by kernel_rfl) (by kernel_rfl) (by kernel_rfl) (fun _ _ _ h => h) (by rfl) ?hy39 (by assumption) ?rest39
          case hy39 => (intro w hSw; (try dsimp only at hSw); go_simp; try with_reducible rfl)
          case' rest39 => try simp only [Act.put, List.setIfInBounds_toArray, List.set_cons_zero, List.set_cons_succ]
          refine Drawn.take (i := 5) (d := some 38) (v := ?v40) rfl rfl (by kernel_rfl) (by kernel_rfl) (by kernel_rfl) (fun _ _ _ h => h) (by rfl) ?hy40 (by assumption) ?rest40
          case hy40 => (intro w hSw; (try dsimp only at hSw); go_simp; try with_reducible rfl)
          case' rest40 => try simp only [Act.put, List.setIfInBounds_toArray, List.set_cons_zero, List.set_cons_succ]
          refine Drawn.pass (i := 6) (d := some 39) rfl rfl (by kernel_rfl) (by kernel_rfl) (by kernel_rfl) (fun _ _ _ h => h) (by rfl) (by assumption) ?rest175
          case' rest175 => try simp only [Act.put, List.setIfInBounds_toArray, List.set_cons_zero, List.set_cons_succ]
          refine Drawn.pass (i := 7) (d := some 40) rfl rfl (by kernel_rfl) (by kernel_rfl) (by kernel_rfl) (fun _ _ _ h => h) (by rfl) (by assumption) ?rest176
          case' rest176 => try simp only [Act.put, List.setIfInBounds_toArray, List.set_cons_zero, List.set_cons_succ]
          refine Drawn.pass (i := 8) (d := some 41) rfl rfl (by kernel_rfl) (by kernel_rfl) (by kernel_rfl) (fun _ _ _ h => h) (by rfl) (by assumption) ?rest177
          case' rest177 => try simp only [Act.put, List.setIfInBounds_toArray, List.set_cons_zero, List.set_cons_succ]
          refine Drawn.pass (i := 9) (d := some 42) rfl rfl (by kernel_rfl) (by kernel_rfl) (by kernel_rfl) (fun _ _ _ h => h) (by rfl) (by assumption) ?rest178
          case' rest178 => try simp only [Act.put, List.setIfInBounds_toArray, List.set_cons_zero, List.set_cons_succ]
          refine Drawn.pass (i := 10) (d := some 43) rfl rfl (by kernel_rfl) (by kernel_rfl) (by kernel_rfl) (fun _ _ _ h => h) (by rfl) (by assumption) ?rest179
          case' rest179 => try simp only [Act.put, List.setIfInBounds_toArray, List.set_cons_zero, List.set_cons_succ]
          refine Drawn.take (i := 11) (d := some 44) (v := ?v41) rfl rfl (by kernel_rfl) (by kernel_rfl) (by kernel_rfl) (fun _ _ _ h => h) (by rfl) ?hy41 (by assumption) ?rest41
          case hy41 => (intro w hSw; (try dsimp only at hSw); go_simp; try with_reducible rfl)
          case' rest41 => try simp only [Act.put, List.setIfInBounds_toArray, List.set_cons_zero, List.set_cons_succ]
          refine Drawn.take (i := 12) (d := some 45) (v := ?v42) rfl rfl (by kernel_rfl) (by kernel_rfl) (by kernel_rfl) (fun _ _ _ h => h) (by rfl) ?hy42 (by assumption) ?rest42
          case hy42 => (intro w hSw; (try dsimp only at hSw); go_simp; try with_reducible rfl)
          case' rest42 => try simp only [Act.put, List.setIfInBounds_toArray, List.set_cons_zero, List.set_cons_succ]
          refine Drawn.take (i := 13) (d := some 46) (v := ?v43) rfl rfl (by kernel_rfl) (by kernel_rfl) (by kernel_rfl) (fun _ _ _ h => h) (by rfl) ?hy43 (by assumption) ?rest43
          case hy43 => (intro w hSw; (try dsimp only at hSw); go_simp; try with_reducible rfl)
          case' rest43 => try simp only [Act.put, List.setIfInBounds_toArray, List.set_cons_zero, List.set_cons_succ]
          refine Drawn.take (i := 14) (d := some 47) (v := ?v44) rfl rfl (by kernel_rfl) (by kernel_rfl) (by kernel_rfl) (fun _ _ _ h => h) (by rfl) ?hy44 (by assumption) ?rest44
          case hy44 => (intro w hSw; (try dsimp only at hSw); go_simp; try with_reducible rfl)
          case' rest44 => try simp only [Act.put, List.setIfInBounds_toArray, List.set_cons_zero, List.set_cons_succ]
          refine Drawn.take (i := 15) (d := some 48) (v := ?v45) rfl rfl (by kernel_rfl) (by kernel_rfl) (by kernel_rfl) (fun _ _ _ h => h) (by rfl) ?hy45 (by assumption) ?rest45
          case hy45 => (intro w hSw; (try dsimp only at hSw); go_simp; try with_reducible rfl)
          case' rest45 => try simp only [Act.put, List.setIfInBounds_toArray, List.set_cons_zero, List.set_cons_succ]
          refine Drawn.take (i := 16) (d := some 49) (v := ?v46) rfl rfl (by kernel_rfl) (by kernel_rfl) (by kernel_rfl) (fun _ _ _ h => h) (by rfl) ?hy46 (by assumption) ?rest46
          case hy46 => (intro w hSw; (try dsimp only at hSw); go_simp; try with_reducible rfl)
          case' rest46 => try simp only [Act.put, List.setIfInBounds_toArray, List.set_cons_zero, List.set_cons_succ]
          refine Drawn.take (i := 17) (d := some 50) (v := ?v47) rfl rfl (by kernel_rfl) (by kernel_rfl) (by kernel_rfl) (fun _ _ _ h => h) (by rfl) ?hy47 (by assumption) ?rest47
          case hy47 => (intro w hSw; (try dsimp only at hSw); go_simp; try with_reducible rfl)
          case' rest47 => try simp only [Act.put, List.setIfInBounds_toArray, List.set_cons_zero, List.set_cons_succ]
          refine Drawn.take (i := 18) (d := some 51) (v := ?v48) rfl rfl (by kernel_rfl) (by kernel_rfl) (by kernel_rfl) (fun _ _ _ h => h) (by rfl) ?hy48 (by assumption) ?rest48
          case hy48 => (intro w hSw; (try dsimp only at hSw); go_simp; try with_reducible rfl)
          case' rest48 => try simp only [Act.put, List.setIfInBounds_toArray, List.set_cons_zero, List.set_cons_succ]
          refine Drawn.take (i := 19) (d := some 52) (v := ?v49) rfl rfl (by kernel_rfl) (by kernel_rfl) (by kernel_rfl) (fun _ _ _ h => h) (by rfl) ?hy49 (by assumption) ?rest49
          case hy49 => (intro w hSw; (try dsimp only at hSw); go_simp; try with_reducible rfl)
          case' rest49 => try simp only [Act.put, List.setIfInBounds_toArray, List.set_cons_zero, List.set_cons_succ]
          refine Drawn.take (i := 20) (d := some 53) (v := ?v50) rfl rfl (by kernel_rfl) (by kernel_rfl) (by kernel_rfl) (fun _ _ _ h => h) (by rfl) ?hy50 (by assumption) ?rest50
          case hy50 => (intro w hSw; (try dsimp only at hSw); go_simp; try with_reducible rfl)
          case' rest50 => try simp only [Act.put, List.setIfInBounds_toArray, List.set_cons_zero, List.set_cons_succ]
          refine Drawn.take (i := 21) (d := some 54) (v := ?v51) rfl rfl (by kernel_rfl) (by kernel_rfl) (by kernel_rfl) (fun _ _ _ h => h) (by rfl) ?hy51 (by assumption) ?rest51
          case hy51 => (intro w hSw; (try dsimp only at hSw); go_simp; try with_reducible rfl)
          case' rest51 => try simp only [Act.put, List.setIfInBounds_toArray, List.set_cons_zero, List.set_cons_succ]
          refine Drawn.take (i := 22) (d := some 55) (v := ?v52) rfl rfl (by kernel_rfl) (by kernel_rfl) (by kernel_rfl) (fun _ _ _ h => h) (by rfl) ?hy52 (by assumption) ?rest52
          case hy52 => (intro w hSw; (try dsimp only at hSw); go_simp; try with_reducible rfl)
          case' rest52 => try simp only [Act.put, List.setIfInBounds_toArray, List.set_cons_zero, List.set_cons_succ]
          refine Drawn.take (i := 23) (d := some 56) (v := ?v53) rfl rfl (by kernel_rfl) (by kernel_rfl) (by kernel_rfl) (fun _ _ _ h => h) (by rfl) ?hy53 (by assumption) ?rest53
          case hy53 => (intro w hSw; (try dsimp only at hSw); go_simp; try with_reducible rfl)
          case' rest53 => try simp only [Act.put, List.setIfInBounds_toArray, List.set_cons_zero, List.set_cons_succ]
          refine Drawn.take (i := 24) (d := some 57) (v := ?v54) rfl rfl (by kernel_rfl) (by kernel_rfl) (by kernel_rfl) (fun _ _ _ h => h) (by rfl) ?hy54 (by assumption) ?rest54
          case hy54 => (intro w hSw; (try dsimp only at hSw); go_simp; try with_reducible rfl)
          case' rest54 => try simp only [Act.put, List.setIfInBounds_toArray, List.set_cons_zero, List.set_cons_succ]
          refine Drawn.take (i := 25) (d := some 58) (v := ?v55) rfl rfl (by kernel_rfl) (by kernel_rfl) (by kernel_rfl) (fun _ _ _ h => h) (by rfl) ?hy55 (by assumption) ?rest55
          case hy55 => (intro w hSw; (try dsimp only at hSw); go_simp; try with_reducible rfl)
          case' rest55 => try simp only [Act.put, List.setIfInBounds_toArray, List.set_cons_zero, List.set_cons_succ]
          refine Drawn.take (i := 26) (d := some 59) (v := ?v56) rfl rfl (by kernel_rfl) (by kernel_rfl) (by kernel_rfl) (fun _ _ _ h => h) (by rfl) ?hy56 (by assumption) ?rest56
          case hy56 => (intro w hSw; (try dsimp only at hSw); go_simp; try with_reducible rfl)
          case' rest56 => try simp only [Act.put, List.setIfInBounds_toArray, List.set_cons_zero, List.set_cons_succ]
          refine Drawn.take (i := 27) (d := some 60) (v := ?v57) rfl rfl (by kernel_rfl) (by kernel_rfl) (by kernel_rfl) (fun _ _ _ h => h) (by rfl) ?hy57 (by assumption) ?rest57
          case hy57 => (intro w hSw; (try dsimp only at hSw); go_simp; try with_reducible rfl)
          case' rest57 => try simp only [Act.put, List.setIfInBounds_toArray, List.set_cons_zero, List.set_cons_succ]
          refine wpAnyH_ready (rs := [28]) (by kernel_rfl) (by simp) ?_
          refine AllReadyH.cons rfl (fun K hK => ?_) AllReadyH.nil
          go_simp
          go_at_call 90
          refine (regV m F kx p _ _ hp.out (hm0.out.mono hwr.drew (by simp; omega)) hr.out).mono ?_
          rintro e w6 ⟨rfl, hb6⟩
          have hw6 : Below wr.heap.size wr w6 := Below.trans (by repeat' (first | with_reducible exact Below.refl _ _ | with_reducible assumption | exact Nat.le_refl _ | with_reducible refine Go.Proofs.Ytncmhenfgbcihaa.Rd.below_drewN ?_ _ | with_reducible refine Below.alloc ?_ ?_ _ | with_reducible refine Below.setCell ?_ ?_ _ | with_reducible refine Below.drew ?_ | omega | (simp; omega) | (simp; done))) (hb6.mono (by simp))
          have s1 := kept hw6 (by omega) cK
          have s2 := kept hw6 (by omega) cF
          have s3 := kept hw6 (by omega) d0
          have s4 := kept hw6 (by omega) d1
          have s5 := kept hw6 (by omega) d2
          have s6 := kept hw6 (by omega) d3
          have s7 := kept hw6 (by omega) d4
          have s8 := kept hw6 (by omega) d5
          have s9 := kept hw6 (by omega) d6
          have s10 := kept hw6 (by omega) d7
          go_wp2_with fail
          refine hK.out _ _ (by (try dsimp only); exact ⟨⟨s1, s2⟩, s3, s4, s5, s6, s7, s8, s9, s10⟩) (fun hHeld => ?_)
          clear hK K
          try simp only [Act.put, List.setIfInBounds_toArray, List.set_cons_zero, List.set_cons_succ]
          refine Drawn.take (i := 29) (d := some 62) (v := ?v58) rfl rfl (by kernel_rfl) (by kernel_rfl) (by kernel_rfl) (fun _ _ _ h => h) (by rfl) ?hy58 (by assumption) ?rest58
          case hy58 => (intro w hSw; (try dsimp only at hSw); go_simp; try with_reducible rfl)
          case' rest58 => try simp only [Act.put, List.setIfInBounds_toArray, List.set_cons_zero, List.set_cons_succ]
          refine Drawn.take (i := 30) (d := some 63) (v := ?v59) rfl rfl (by kernel_rfl) (by kernel_rfl) (by kernel_rfl) (fun _ _ _ h => h) (by rfl) ?hy59 (by assumption) ?rest59
          case hy59 => (intro w hSw; (try dsimp only at hSw); go_simp; try with_reducible rfl)
          case' rest59 => try simp only [Act.put, List.setIfInBounds_toArray, List.set_cons_zero, List.set_cons_succ]
          refine Drawn.take (i := 31) (d := some 64) (v := ?v60) rfl rfl (by kernel_rfl) (by kernel_rfl) (by kernel_rfl) (fun _ _ _ h => h) (by rfl) ?hy60 (by assumption) ?rest60
          case hy60 => (intro w hSw; (try dsimp only at hSw); go_simp; try with_reducible rfl)
          case' rest60 => try simp only [Act.put, List.setIfInBounds_toArray, List.set_cons_zero, List.set_cons_succ]
          refine wpAnyH_done (by kernel_rfl) ?_ _
          clear s1 s2 s3 s4 s5 s6 s7 s8 s9 s10
          cases p
          · go_wp2_with fail
            go_ret
            exact ⟨ret_bool (hno.out hfk.out).symm, hwr.trans (hw6.mono (by omega))⟩
          · go_wp2_with fail
            go_roundw
            case rel => exact ⟨j + 1, by omega, by go_num, hq.trans (hw6.mono (by omega)), hyes.out hfk.out⟩
            case measure => simp [intOf]; omega
        · have hfk : Hid (Rform.fok m.regs kx F = true) := by show _ = _; simp [Rform.fok, z0, z2]
          have zb : decide (0 < kx) = false := decide_eq_false z2
          clear z0
          go_wp2_with fail
          refine wp_region_held_drew (S := fun w' => w'.cell? ⟨kn, j, none⟩ = some (.int .i64 kx) ∧ w'.cell? ⟨w1.heap.size, j, none⟩ = some (.int .i64 F)) (by kernel_rfl) (by (try dsimp only); first | exact ⟨cK, cF⟩ | go_keep) (fun hHeld => ?_)
          refine Drawn.take (i := 0) (d := some 33) (v := ?v61) rfl rfl (by kernel_rfl) (by kernel_rfl) (by kernel_rfl) (fun _ _ _ h => h) (by rfl) ?hy61 (by assumption) ?rest61
          case hy61 => (intro w hSw; (try dsimp only at hSw); go_simp; try with_reducible rfl)
          case' rest61 => try simp only [Act.put, List.setIfInBounds_toArray, List.set_cons_zero, List.set_cons_succ]
          refine Drawn.take (i := 1) (d := some 34) (v := ?v62) rfl rfl (by kernel_rfl) (by kernel_rfl) (by kernel_rfl) (fun _ _ _ h => h) (by rfl) ?hy62 (by assumption) ?rest62
          case hy62 => (intro w hSw; (try dsimp only at hSw); go_simp; try with_reducible rfl)
          case' rest62 => try simp only [Act.put, List.setIfInBounds_toArray, List.set_cons_zero, List.set_cons_succ]
          refine Drawn.take (i := 2) (d := some 35) (v := ?v63) rfl rfl (by kernel_rfl) (by kernel_rfl) (by kernel_rfl) (fun _ _ _ h => h) (by rfl) ?hy63 (by assumption) ?rest63
          case hy63 => (intro w hSw; (try dsimp only at hSw); go_simp; try with_reducible rfl)
          case' rest63 => try simp only [Act.put, List.setIfInBounds_toArray, List.set_cons_zero, List.set_cons_succ]
          refine Drawn.take (i := 3) (d := some 36) (v := ?v64) rfl rfl (by kernel_rfl) (by kernel_rfl) (by kernel_rfl) (fun _ _ _ h => h) (by rfl) ?hy64 (by assumption) ?rest64
          case hy64 => (intro w hSw; (try dsimp only at hSw); go_simp; try with_reducible rfl)
          case' rest64 => try simp only [Act.put, List.setIfInBounds_toArray, List.set_cons_zero, List.set_cons_succ]
          refine Drawn.take (i := 4) (d := some 37) (v := ?v65) rfl rfl (by kernel_rfl) (by kernel_rfl) (by kernel_rfl) (fun _ _ _ h => h) (by rfl) ?hy65 (by assumption) ?rest65
          case hy65 => (intro w hSw; (try dsimp only at hSw); go_simp; try with_reducible rfl)
          case' rest65 => try simp only [Act.put, List.setIfInBounds_toArray, List.set_cons_zero, List.set_cons_succ]
          refine Drawn.take (i := 5) (d := some 38) (v := ?v66) rfl rfl (by kernel_rfl) (by kernel_rfl) (by kernel_rfl) (fun _ _ _ h => h) (by rfl) ?hy66 (by assumption) ?rest66
          case hy66 => (intro w hSw; (try dsimp only at hSw); go_simp; try with_reducible rfl)
          case' rest66 => try simp only [Act.put, List.setIfInBounds_toArray, List.set_cons_zero, List.set_cons_succ]
          refine Drawn.pass (i := 6) (d := some 39) rfl rfl (by kernel_rfl) (by kernel_rfl) (by kernel_rfl) (fun _ _ _ h => h) (by rfl) (by assumption) ?rest180
          case' rest180 => try simp only [Act.put, List.setIfInBounds_toArray, List.set_cons_zero, List.set_cons_succ]
          refine Drawn.pass (i := 7) (d := some 40) rfl rfl (by kernel_rfl) (by kernel_rfl) (by kernel_rfl) (fun _ _ _ h => h) (by rfl) (by assumption) ?rest181
          case' rest181 => try simp only [Act.put, List.setIfInBounds_toArray, List.set_cons_zero, List.set_cons_succ]
          refine Drawn.pass (i := 8) (d := some 41) rfl rfl (by kernel_rfl) (by kernel_rfl) (by kernel_rfl) (fun _ _ _ h => h) (by rfl) (by assumption) ?rest182
          case' rest182 => try simp only [Act.put, List.setIfInBounds_toArray, List.set_cons_zero, List.set_cons_succ]
          refine Drawn.pass (i := 9) (d := some 42) rfl rfl (by kernel_rfl) (by kernel_rfl) (by kernel_rfl) (fun _ _ _ h => h) (by rfl) (by assumption) ?rest183
          case' rest183 => try simp only [Act.put, List.setIfInBounds_toArray, List.set_cons_zero, List.set_cons_succ]
          refine Drawn.pass (i := 10) (d := some 43) rfl rfl (by kernel_rfl) (by kernel_rfl) (by kernel_rfl) (fun _ _ _ h => h) (by rfl) (by assumption) ?rest184
          case' rest184 => try simp only [Act.put, List.setIfInBounds_toArray, List.set_cons_zero, List.set_cons_succ]
          refine Drawn.take (i := 11) (d := some 44) (v := ?v67) rfl rfl (by kernel_rfl) (by kernel_rfl) (by kernel_rfl) (fun _ _ _ h => h) (by rfl) ?hy67 (by assumption) ?rest67
          case hy67 => (intro w hSw; (try dsimp only at hSw); go_simp; try with_reducible rfl)
          case' rest67 => try simp only [Act.put, List.setIfInBounds_toArray, List.set_cons_zero, List.set_cons_succ]
          refine Drawn.take (i := 12) (d := some 45) (v := ?v68) rfl rfl (by kernel_rfl) (by kernel_rfl) (by kernel_rfl) (fun _ _ _ h => h) (by rfl) ?hy68 (by assumption) ?rest68
          case hy68 => (intro w hSw; (try dsimp only at hSw); go_simp; try with_reducible rfl)
          case' rest68 => try simp only [Act.put, List.setIfInBounds_toArray, List.set_cons_zero, List.set_cons_succ]
          refine Drawn.take (i := 13) (d := some 46) (v := ?v69) rfl rfl (by kernel_rfl) (by kernel_rfl) (by kernel_rfl) (fun _ _ _ h => h) (by rfl) ?hy69 (by assumption) ?rest69
          case hy69 => (intro w hSw; (try dsimp only at hSw); go_simp; try with_reducible rfl)
          case' rest69 => try simp only [Act.put, List.setIfInBounds_toArray, List.set_cons_zero, List.set_cons_succ]
          refine Drawn.take (i := 14) (d := some 47) (v := ?v70) rfl rfl (by kernel_rfl) (by kernel_rfl) (by kernel_rfl) (fun _ _ _ h => h) (by rfl) ?hy70 (by assumption) ?rest70
          case hy70 => (intro w hSw; (try dsimp only at hSw); go_simp; try with_reducible rfl)
          case' rest70 => try simp only [Act.put, List.setIfInBounds_toArray, List.set_cons_zero, List.set_cons_succ]
          refine Drawn.take (i := 15) (d := some 48) (v := ?v71) rfl rfl (by kernel_rfl) (by kernel_rfl) (by kernel_rfl) (fun _ _ _ h => h) (by rfl) ?hy71 (by assumption) ?rest71
          case hy71 => (intro w hSw; (try dsimp only at hSw); go_simp; try with_reducible rfl)
          case' rest71 => try simp only [Act.put, List.setIfInBounds_toArray, List.set_cons_zero, List.set_cons_succ]
          refine Drawn.take (i := 16) (d := some 49) (v := ?v72) rfl rfl (by kernel_rfl) (by kernel_rfl) (by kernel_rfl) (fun _ _ _ h => h) (by rfl) ?hy72 (by assumption) ?rest72
          case hy72 => (intro w hSw; (try dsimp only at hSw); go_simp; try with_reducible rfl)
          case' rest72 => try simp only [Act.put, List.setIfInBounds_toArray, List.set_cons_zero, List.set_cons_succ]
          refine Drawn.take (i := 17) (d := some 50) (v := ?v73) rfl rfl (by kernel_rfl) (by kernel_rfl) (by kernel_rfl) (fun _ _ _ h => h) (by rfl) ?hy73 (by assumption) ?rest73
          case hy73 => (intro w hSw; (try dsimp only at hSw); go_simp; try with_reducible rfl)
          case' rest73 => try simp only [Act.put, List.setIfInBounds_toArray, List.set_cons_zero, List.set_cons_succ]
          refine Drawn.take (i := 18) (d := some 51) (v := ?v74) rfl rfl (by kernel_rfl) (by kernel_rfl) (by kernel_rfl) (fun _ _ _ h => h) (by rfl) ?hy74 (by assumption) ?rest74
          case hy74 => (intro w hSw; (try dsimp only at hSw); go_simp; try with_reducible rfl)
          case' rest74 => try simp only [Act.put, List.setIfInBounds_toArray, List.set_cons_zero, List.set_cons_succ]
          refine Drawn.pass (i := 19) (d := some 52) rfl rfl (by kernel_rfl) (by kernel_rfl) (by kernel_rfl) (fun _ _ _ h => h) (by rfl) (by assumption) ?rest185
          case' rest185 => try simp only [Act.put, List.setIfInBounds_toArray, List.set_cons_zero, List.set_cons_succ]
          refine Drawn.pass (i := 20) (d := some 53) rfl rfl (by kernel_rfl) (by kernel_rfl) (by kernel_rfl) (fun _ _ _ h => h) (by rfl) (by assumption) ?rest186
          case' rest186 => try simp only [Act.put, List.setIfInBounds_toArray, List.set_cons_zero, List.set_cons_succ]
          refine Drawn.pass (i := 21) (d := some 54) rfl rfl (by kernel_rfl) (by kernel_rfl) (by kernel_rfl) (fun _ _ _ h => h) (by rfl) (by assumption) ?rest187
          case' rest187 => try simp only [Act.put, List.setIfInBounds_toArray, List.set_cons_zero, List.set_cons_succ]
          refine Drawn.pass (i := 22) (d := some 55) rfl rfl (by kernel_rfl) (by kernel_rfl) (by kernel_rfl) (fun _ _ _ h => h) (by rfl) (by assumption) ?rest188
          case' rest188 => try simp only [Act.put, List.setIfInBounds_toArray, List.set_cons_zero, List.set_cons_succ]
          refine Drawn.pass (i := 23) (d := some 56) rfl rfl (by kernel_rfl) (by kernel_rfl) (by kernel_rfl) (fun _ _ _ h => h) (by rfl) (by assumption) ?rest189
          case' rest189 => try simp only [Act.put, List.setIfInBounds_toArray, List.set_cons_zero, List.set_cons_succ]
          refine Drawn.pass (i := 24) (d := some 57) rfl rfl (by kernel_rfl) (by kernel_rfl) (by kernel_rfl) (fun _ _ _ h => h) (by rfl) (by assumption) ?rest190
          case' rest190 => try simp only [Act.put, List.setIfInBounds_toArray, List.set_cons_zero, List.set_cons_succ]
          refine Drawn.pass (i := 25) (d := some 58) rfl rfl (by kernel_rfl) (by kernel_rfl) (by kernel_rfl) (fun _ _ _ h => h) (by rfl) (by assumption) ?rest191
          case' rest191 => try simp only [Act.put, List.setIfInBounds_toArray, List.set_cons_zero, List.set_cons_succ]
          refine Drawn.pass (i := 26) (d := some 59) rfl rfl (by kernel_rfl) (by kernel_rfl) (by kernel_rfl) (fun _ _ _ h => h) (by rfl) (by assumption) ?rest192
          case' rest192 => try simp only [Act.put, List.setIfInBounds_toArray, List.set_cons_zero, List.set_cons_succ]
          refine Drawn.pass (i := 27) (d := some 60) rfl rfl (by kernel_rfl) (by kernel_rfl) (by kernel_rfl) (fun _ _ _ h => h) (by rfl) (by assumption) ?rest193
          case' rest193 => try simp only [Act.put, List.setIfInBounds_toArray, List.set_cons_zero, List.set_cons_succ]
          refine Drawn.pass (i := 28) (d := some 61) rfl rfl (by kernel_rfl) (by kernel_rfl) (by kernel_rfl) (fun _ _ _ h => h) (by rfl) (by assumption) ?rest194
          case' rest194 => try simp only [Act.put, List.setIfInBounds_toArray, List.set_cons_zero, List.set_cons_succ]
          refine Drawn.pass (i := 29) (d := some 62) rfl rfl (by kernel_rfl) (by kernel_rfl) (by kernel_rfl) (fun _ _ _ h => h) (by rfl) (by assumption) ?rest195
          case' rest195 => try simp only [Act.put, List.setIfInBounds_toArray, List.set_cons_zero, List.set_cons_succ]
          refine Drawn.take (i := 30) (d := some 63) (v := ?v75) rfl rfl (by kernel_rfl) (by kernel_rfl) (by kernel_rfl) (fun _ _ _ h => h) (by rfl) ?hy75 (by assumption) ?rest75
          case hy75 => (intro w hSw; (try dsimp only at hSw); go_simp; try with_reducible rfl)
          case' rest75 => try simp only [Act.put, List.setIfInBounds_toArray, List.set_cons_zero, List.set_cons_succ]
          refine Drawn.take (i := 31) (d := some 64) (v := ?v76) rfl rfl (by kernel_rfl) (by kernel_rfl) (by kernel_rfl) (fun _ _ _ h => h) (by rfl) ?hy76 (by assumption) ?rest76
          case hy76 => (intro w hSw; (try dsimp only at hSw); go_simp; try with_reducible rfl)
          case' rest76 => try simp only [Act.put, List.setIfInBounds_toArray, List.set_cons_zero, List.set_cons_succ]
          refine wpAnyH_done (by kernel_rfl) ?_ _
          go_wp2_with fail
          go_roundw
          case rel => exact ⟨j + 1, by omega, by go_num, hq.trans (Below.drew (Below.refl _ _)), hyes.out hfk.out⟩
          case measure => simp [intOf]; omega
    · have hge : ¬ (j : Int) < 3 := by omega
      obtain rfl : j = 3 := by omega
      have d0 := kept hq (by omega) (kept hbW (by omega) m0)
      have d1 := kept hq (by omega) (kept hbW (by omega) m1)
      have d2 := kept hq (by omega) (kept hbW (by omega) m2)
      have d3 := kept hq (by omega) (kept hbW (by omega) m3)
      have d4 := kept hq (by omega) (kept hbW (by omega) m4)
      have d5 := kept hq (by omega) (kept hbW (by omega) m5)
      have d6 := kept hq (by omega) (kept hbW (by omega) m6)
      have d7 := kept hq (by omega) (kept hbW (by omega) m7)
      have c0 := kept hq (by omega) (kept hbW (by omega) f0)
      have c1 := kept hq (by omega) (kept hbW (by omega) f1)
      have y0 := kept hq (by omega) (kept hbW (by omega) x0)
      have y1 := kept hq (by omega) (kept hbW (by omega) x1)
      have y2 := kept hq (by omega) (kept hbW (by omega) x2)
      have y3 := kept hq (by omega) (kept hbW (by omega) x3)
      have y4 := kept hq (by omega) (kept hbW (by omega) x4)
      have y5 := kept hq (by omega) (kept hbW (by omega) x5)
      have hA := Lib.hid (And.intro (hall.out 0 (by omega)) (And.intro (hall.out 1 (by omega)) (hall.out 2 (by omega))))
      clear e0 e1 e2 a0 a1 a2 f0 f1 m0 m1 m2 m3 m4 m5 m6 m7 x0 x1 x2 x3 x4 x5 hall hq hbW hw1
      by_cases h18 : op = 18
      · subst h18
        have hsub : IntKind.i64.wrap ((f.methods.length : Int) - 1) = (f.methods.length : Int) - 1 := by rw [Num.wrap_i64, wrap64_id ⟨by omega, by omega⟩]
        have hBC : Hid (b = 0 ∧ c = 0) := by
          show _ ∧ _
          have hk2 := hkk.out
          simp [Rform.kinds] at hk2
          obtain ⟨rfl, rfl, rfl⟩ := hk2
          have hA2 := hA.out
          simpa [pick, Rform.fok] using hA2
        by_cases hn : n = 0
        case neg =>
          have hX : Hid (Rform.ins f m ⟨18, a, b, c, n, args⟩ = false) := by show _ = _; simp [Rform.ins, Rform.num, hn]
          have hn' : (n != 0) = true := by simpa using hn
          go_wp2_with fail
          go_ret
          exact ⟨ret_bool hX.out.symm, hwr⟩
        have hn' : (n != 0) = false := by simpa using hn
        have hn0 := Lib.hid hn
        clear hn
        have hXX : Hid (Rform.ins f m ⟨18, a, b, c, n, args⟩ = (Form.rng a 0 f.methods.length && decide (args.length = (Rform.mAt f.methods a).length) && Rform.regsOk m.regs (Rform.mAt f.methods a) args)) := by
          show _ = _
          simp [Rform.ins, Rform.body, Rform.num, hn0.out, hBC.out.1, hBC.out.2]
        obtain ⟨p, hp⟩ : ∃ p, Hid (within a 0 ((f.methods.length : Int) - 1) = p) := ⟨_, rfl⟩
        have hpr : Hid (Form.rng a 0 f.methods.length = p) := by show _ = _; rw [← hp.out, within_rng, Int.sub_add_cancel]
        have hpf := hp.out
        cases p
        ·
          have hX : Hid (Rform.ins f m ⟨18, a, b, c, n, args⟩ = false) := by show _ = _; rw [hXX.out, hpr.out]; rfl
          go_wp2_with fail
          refine wp_region_held_drew (S := fun w' => w'.cell? ⟨w.heap.size + 1 + 1, 1, none⟩ = some (.int .i64 a) ∧ w'.cell? ⟨w.heap.size, 1, none⟩ = some (.slice ma f.methods.length mcap)) (by kernel_rfl) (by (try dsimp only); first | exact ⟨y1, c1⟩ | go_keep) (fun hHeld => ?_)
          refine Drawn.take (i := 0) (d := some 305) (v := ?v77) rfl rfl (by kernel_rfl) (by kernel_rfl) (by kernel_rfl) (fun _ _ _ h => h) (by rfl) ?hy77 (by assumption) ?rest77
          case hy77 => (intro w hSw; (try dsimp only at hSw); go_simp; try with_reducible rfl)
          case' rest77 => try simp only [Act.put, List.setIfInBounds_toArray, List.set_cons_zero, List.set_cons_succ]
          refine Drawn.take (i := 1) (d := some 306) (v := ?v78) rfl rfl (by kernel_rfl) (by kernel_rfl) (by kernel_rfl) (fun _ _ _ h => h) (by rfl) ?hy78 (by assumption) ?rest78
          case hy78 => (intro w hSw; (try dsimp only at hSw); go_simp; try with_reducible rfl)
          case' rest78 => try simp only [Act.put, List.setIfInBounds_toArray, List.set_cons_zero, List.set_cons_succ]
          refine Drawn.take (i := 2) (d := some 307) (v := ?v79) rfl rfl (by kernel_rfl) (by kernel_rfl) (by kernel_rfl) (fun _ _ _ h => h) (by rfl) ?hy79 (by assumption) ?rest79
          case hy79 => (intro w hSw; (try dsimp only at hSw); go_simp; try with_reducible rfl)
          case' rest79 => try simp only [Act.put, List.setIfInBounds_toArray, List.set_cons_zero, List.set_cons_succ]
          refine Drawn.take (i := 3) (d := some 308) (v := ?v80) rfl rfl (by kernel_rfl) (by kernel_rfl) (by kernel_rfl) (fun _ _ _ h => h) (by rfl) ?hy80 (by assumption) ?rest80
          case hy80 => (intro w hSw; (try dsimp only at hSw); go_simp; try with_reducible rfl)
          case' rest80 => try simp only [Act.put, List.setIfInBounds_toArray, List.set_cons_zero, List.set_cons_succ]
          refine Drawn.take (i := 4) (d := some 309) (v := ?v81) rfl rfl (by kernel_rfl) (by kernel_rfl) (by kernel_rfl) (fun _ _ _ h => h) (by rfl) ?hy81 (by assumption) ?rest81
          case hy81 => (intro w hSw; (try dsimp only at hSw); go_simp; try with_reducible rfl)
          case' rest81 => try simp only [Act.put, List.setIfInBounds_toArray, List.set_cons_zero, List.set_cons_succ]
          refine Drawn.take (i := 5) (d := some 310) (v := ?v82) rfl rfl (by kernel_rfl) (by kernel_rfl) (by kernel_rfl) (fun _ _ _ h => h) (by rfl) ?hy82 (by assumption) ?rest82
          case hy82 => (intro w hSw; (try dsimp only at hSw); go_simp; try with_reducible rfl)
          case' rest82 => try simp only [Act.put, List.setIfInBounds_toArray, List.set_cons_zero, List.set_cons_succ]
          refine wpAnyH_ready (rs := [6]) (by kernel_rfl) (by simp) ?_
          refine AllReadyH.cons rfl (fun K hK => ?_) AllReadyH.nil
          go_simp
          go_at_call 48
          refine (wi _ _ _ _).mono ?_
          rintro e w2 ⟨rfl, rfl⟩
          rw [hpf]
          go_wp2_with fail
          refine hK.out _ _ (by (try dsimp only); exact ⟨y1, c1⟩) (fun hHeld => ?_)
          clear hK K
          try simp only [Act.put, List.setIfInBounds_toArray, List.set_cons_zero, List.set_cons_succ]
          refine Drawn.take (i := 7) (d := some 312) (v := ?v83) rfl rfl (by kernel_rfl) (by kernel_rfl) (by kernel_rfl) (fun _ _ _ h => h) (by rfl) ?hy83 (by assumption) ?rest83
          case hy83 => (intro w hSw; (try dsimp only at hSw); go_simp; try with_reducible rfl)
          case' rest83 => try simp only [Act.put, List.setIfInBounds_toArray, List.set_cons_zero, List.set_cons_succ]
          refine Drawn.take (i := 8) (d := some 313) (v := ?v84) rfl rfl (by kernel_rfl) (by kernel_rfl) (by kernel_rfl) (fun _ _ _ h => h) (by rfl) ?hy84 (by assumption) ?rest84
          case hy84 => (intro w hSw; (try dsimp only at hSw); go_simp; try with_reducible rfl)
          case' rest84 => try simp only [Act.put, List.setIfInBounds_toArray, List.set_cons_zero, List.set_cons_succ]
          refine Drawn.pass (i := 9) (d := some 314) rfl rfl (by kernel_rfl) (by kernel_rfl) (by kernel_rfl) (fun _ _ _ h => h) (by rfl) (by assumption) ?rest196
          case' rest196 => try simp only [Act.put, List.setIfInBounds_toArray, List.set_cons_zero, List.set_cons_succ]
          refine Drawn.pass (i := 10) (d := some 315) rfl rfl (by kernel_rfl) (by kernel_rfl) (by kernel_rfl) (fun _ _ _ h => h) (by rfl) (by assumption) ?rest197
          case' rest197 => try simp only [Act.put, List.setIfInBounds_toArray, List.set_cons_zero, List.set_cons_succ]
          refine Drawn.pass (i := 11) (d := some 316) rfl rfl (by kernel_rfl) (by kernel_rfl) (by kernel_rfl) (fun _ _ _ h => h) (by rfl) (by assumption) ?rest198
          case' rest198 => try simp only [Act.put, List.setIfInBounds_toArray, List.set_cons_zero, List.set_cons_succ]
          refine Drawn.pass (i := 12) (d := some 317) rfl rfl (by kernel_rfl) (by kernel_rfl) (by kernel_rfl) (fun _ _ _ h => h) (by rfl) (by assumption) ?rest199
          case' rest199 => try simp only [Act.put, List.setIfInBounds_toArray, List.set_cons_zero, List.set_cons_succ]
          refine Drawn.pass (i := 13) (d := some 318) rfl rfl (by kernel_rfl) (by kernel_rfl) (by kernel_rfl) (fun _ _ _ h => h) (by rfl) (by assumption) ?rest200
          case' rest200 => try simp only [Act.put, List.setIfInBounds_toArray, List.set_cons_zero, List.set_cons_succ]
          refine Drawn.pass (i := 14) (d := some 319) rfl rfl (by kernel_rfl) (by kernel_rfl) (by kernel_rfl) (fun _ _ _ h => h) (by rfl) (by assumption) ?rest201
          case' rest201 => try simp only [Act.put, List.setIfInBounds_toArray, List.set_cons_zero, List.set_cons_succ]
          refine Drawn.pass (i := 15) (d := some 320) rfl rfl (by kernel_rfl) (by kernel_rfl) (by kernel_rfl) (fun _ _ _ h => h) (by rfl) (by assumption) ?rest202
          case' rest202 => try simp only [Act.put, List.setIfInBounds_toArray, List.set_cons_zero, List.set_cons_succ]
          refine Drawn.pass (i := 16) (d := some 321) rfl rfl (by kernel_rfl) (by kernel_rfl) (by kernel_rfl) (fun _ _ _ h => h) (by rfl) (by assumption) ?rest203
          case' rest203 => try simp only [Act.put, List.setIfInBounds_toArray, List.set_cons_zero, List.set_cons_succ]
          refine Drawn.pass (i := 17) (d := some 322) rfl rfl (by kernel_rfl) (by kernel_rfl) (by kernel_rfl) (fun _ _ _ h => h) (by rfl) (by assumption) ?rest204
          case' rest204 => try simp only [Act.put, List.setIfInBounds_toArray, List.set_cons_zero, List.set_cons_succ]
          refine Drawn.pass (i := 18) (d := some 323) rfl rfl (by kernel_rfl) (by kernel_rfl) (by kernel_rfl) (fun _ _ _ h => h) (by rfl) (by assumption) ?rest205
          case' rest205 => try simp only [Act.put, List.setIfInBounds_toArray, List.set_cons_zero, List.set_cons_succ]
          refine Drawn.pass (i := 19) (d := some 324) rfl rfl (by kernel_rfl) (by kernel_rfl) (by kernel_rfl) (fun _ _ _ h => h) (by rfl) (by assumption) ?rest206
          case' rest206 => try simp only [Act.put, List.setIfInBounds_toArray, List.set_cons_zero, List.set_cons_succ]
          refine Drawn.pass (i := 20) (d := some 325) rfl rfl (by kernel_rfl) (by kernel_rfl) (by kernel_rfl) (fun _ _ _ h => h) (by rfl) (by assumption) ?rest207
          case' rest207 => try simp only [Act.put, List.setIfInBounds_toArray, List.set_cons_zero, List.set_cons_succ]
          refine Drawn.take (i := 21) (d := some 326) (v := ?v85) rfl rfl (by kernel_rfl) (by kernel_rfl) (by kernel_rfl) (fun _ _ _ h => h) (by rfl) ?hy85 (by assumption) ?rest85
          case hy85 => (intro w hSw; (try dsimp only at hSw); go_simp; try with_reducible rfl)
          case' rest85 => try simp only [Act.put, List.setIfInBounds_toArray, List.set_cons_zero, List.set_cons_succ]
          refine wpAnyH_done (by kernel_rfl) ?_ _
          go_wp2_with fail
          go_ret
          exact ⟨ret_bool hX.out.symm, hwr.drew⟩
        ·
          have hr2 : 0 ≤ a ∧ a < f.methods.length := by simpa [Form.rng] using hpr.out
          obtain ⟨k, rfl⟩ := Int.eq_ofNat_of_zero_le hr2.1
          have hk : k < f.methods.length := by omega
          obtain ⟨b0, o0, rfl, hb0, he⟩ := mel2.out k hk
          have hmp : Hid (Rform.mAt f.methods (k : Int) = (f.methods[k]).params) := by
            show _ = _
            simp [Rform.mAt, hk]
          obtain ⟨x, hx⟩ := at_of hk
          rw [hx.out] at he hmp
          obtain ⟨vp', _, _, g3, _, _, _, _, _, _, _, _, hps, _, _⟩ := he
          obtain ⟨pa, pcap, rfl, plc, pcc, pel⟩ := hps
          have g4 := kept hwr hb0 g3
          have pel2 := Lib.hid pel
          have hk0 : (0 : Int) ≤ (k : Int) ∧ (k : Int) < f.methods.length := ⟨by omega, by omega⟩
          clear pel g3 hr2
          by_cases hl : args.length = x.params.length
          case neg =>
            have hX : Hid (Rform.ins f m ⟨18, (k : Int), b, c, n, args⟩ = false) := by show _ = _; rw [hXX.out, hmp.out, decide_eq_false hl]; simp
            have hl' : ((args.length : Int) != (x.params.length : Int)) = true := by simp; omega
            clear hl
            go_wp2_with fail
            refine wp_region_held_drew (S := fun w' => w'.cell? ⟨w.heap.size + 1 + 1, 1, none⟩ = some (.int .i64 (k : Int)) ∧ w'.cell? ⟨w.heap.size, 1, none⟩ = some (.slice (some ⟨b0, o0, none⟩) f.methods.length mcap) ∧ w'.cell? ⟨w.heap.size + 1 + 1, 5, none⟩ = some (.slice aa args.length acap) ∧ w'.cell? ⟨b0, o0 + k * 8, none⟩ = some (.slice pa x.params.length pcap)) (by kernel_rfl) (by (try dsimp only); first | exact ⟨y1, c1, y5, g4⟩ | go_keep) (fun hHeld => ?_)
            refine Drawn.take (i := 0) (d := some 305) (v := ?v86) rfl rfl (by kernel_rfl) (by kernel_rfl) (by kernel_rfl) (fun _ _ _ h => h) (by rfl) ?hy86 (by assumption) ?rest86
            case hy86 => (intro w hSw; (try dsimp only at hSw); go_simp; try with_reducible rfl)
            case' rest86 => try simp only [Act.put, List.setIfInBounds_toArray, List.set_cons_zero, List.set_cons_succ]
            refine Drawn.take (i := 1) (d := some 306) (v := ?v87) rfl rfl (by kernel_rfl) (by kernel_rfl) (by kernel_rfl) (fun _ _ _ h => h) (by rfl) ?hy87 (by assumption) ?rest87
            case hy87 => (intro w hSw; (try dsimp only at hSw); go_simp; try with_reducible rfl)
            case' rest87 => try simp only [Act.put, List.setIfInBounds_toArray, List.set_cons_zero, List.set_cons_succ]
            refine Drawn.take (i := 2) (d := some 307) (v := ?v88) rfl rfl (by kernel_rfl) (by kernel_rfl) (by kernel_rfl) (fun _ _ _ h => h) (by rfl) ?hy88 (by assumption) ?rest88
            case hy88 => (intro w hSw; (try dsimp only at hSw); go_simp; try with_reducible rfl)
            case' rest88 => try simp only [Act.put, List.setIfInBounds_toArray, List.set_cons_zero, List.set_cons_succ]
            refine Drawn.take (i := 3) (d := some 308) (v := ?v89) rfl rfl (by kernel_rfl) (by kernel_rfl) (by kernel_rfl) (fun _ _ _ h => h) (by rfl) ?hy89 (by assumption) ?rest89
            case hy89 => (intro w hSw; (try dsimp only at hSw); go_simp; try with_reducible rfl)
            case' rest89 => try simp only [Act.put, List.setIfInBounds_toArray, List.set_cons_zero, List.set_cons_succ]
            refine Drawn.take (i := 4) (d := some 309) (v := ?v90) rfl rfl (by kernel_rfl) (by kernel_rfl) (by kernel_rfl) (fun _ _ _ h => h) (by rfl) ?hy90 (by assumption) ?rest90
            case hy90 => (intro w hSw; (try dsimp only at hSw); go_simp; try with_reducible rfl)
            case' rest90 => try simp only [Act.put, List.setIfInBounds_toArray, List.set_cons_zero, List.set_cons_succ]
            refine Drawn.take (i := 5) (d := some 310) (v := ?v91) rfl rfl (by kernel_rfl) (by kernel_rfl) (by kernel_rfl) (fun _ _ _ h => h) (by rfl) ?hy91 (by assumption) ?rest91
            case hy91 => (intro w hSw; (try dsimp only at hSw); go_simp; try with_reducible rfl)
            case' rest91 => try simp only [Act.put, List.setIfInBounds_toArray, List.set_cons_zero, List.set_cons_succ]
            refine wpAnyH_ready (rs := [6]) (by kernel_rfl) (by simp) ?_
            refine AllReadyH.cons rfl (fun K hK => ?_) AllReadyH.nil
            go_simp
            go_at_call 48
            refine (wi _ _ _ _).mono ?_
            rintro e w2 ⟨rfl, rfl⟩
            rw [hpf]
            go_wp2_with fail
            refine hK.out _ _ (by (try dsimp only); exact ⟨y1, c1, y5, g4⟩) (fun hHeld => ?_)
            clear hK K
            try simp only [Act.put, List.setIfInBounds_toArray, List.set_cons_zero, List.set_cons_succ]
            refine Drawn.take (i := 7) (d := some 312) (v := ?v92) rfl rfl (by kernel_rfl) (by kernel_rfl) (by kernel_rfl) (fun _ _ _ h => h) (by rfl) ?hy92 (by assumption) ?rest92
            case hy92 => (intro w hSw; (try dsimp only at hSw); go_simp; try with_reducible rfl)
            case' rest92 => try simp only [Act.put, List.setIfInBounds_toArray, List.set_cons_zero, List.set_cons_succ]
            refine Drawn.take (i := 8) (d := some 313) (v := ?v93) rfl rfl (by kernel_rfl) (by kernel_rfl) (by kernel_rfl) (fun _ _ _ h => h) (by rfl) ?hy93 (by assumption) ?rest93
            case hy93 => (intro w hSw; (try dsimp only at hSw); go_simp; try with_reducible rfl)
            case' rest93 => try simp only [Act.put, List.setIfInBounds_toArray, List.set_cons_zero, List.set_cons_succ]
            refine Drawn.take (i := 9) (d := some 314) (v := ?v94) rfl rfl (by kernel_rfl) (by kernel_rfl) (by kernel_rfl) (fun _ _ _ h => h) (by rfl) ?hy94 (by assumption) ?rest94
            case hy94 => (intro w hSw; (try dsimp only at hSw); go_simp; try with_reducible rfl)
            case' rest94 => try simp only [Act.put, List.setIfInBounds_toArray, List.set_cons_zero, List.set_cons_succ]
            refine Drawn.take (i := 10) (d := some 315) (v := ?v95) rfl rfl (by kernel_rfl) (by kernel_rfl) (by kernel_rfl) (fun _ _ _ h => h) (by rfl) ?hy95 (by assumption) ?rest95
            case hy95 => (intro w hSw; (try dsimp only at hSw); go_simp; try with_reducible rfl)
            case' rest95 => try simp only [Act.put, List.setIfInBounds_toArray, List.set_cons_zero, List.set_cons_succ]
            refine Drawn.take (i := 11) (d := some 316) (v := ?v96) rfl rfl (by kernel_rfl) (by kernel_rfl) (by kernel_rfl) (fun _ _ _ h => h) (by rfl) ?hy96 (by assumption) ?rest96
            case hy96 => (intro w hSw; (try dsimp only at hSw); go_simp; try with_reducible rfl)
            case' rest96 => try simp only [Act.put, List.setIfInBounds_toArray, List.set_cons_zero, List.set_cons_succ]
            refine Drawn.take (i := 12) (d := some 317) (v := ?v97) rfl rfl (by kernel_rfl) (by kernel_rfl) (by kernel_rfl) (fun _ _ _ h => h) (by rfl) ?hy97 (by assumption) ?rest97
            case hy97 => (intro w hSw; (try dsimp only at hSw); go_simp; try with_reducible rfl)
            case' rest97 => try simp only [Act.put, List.setIfInBounds_toArray, List.set_cons_zero, List.set_cons_succ]
            refine Drawn.take (i := 13) (d := some 318) (v := ?v98) rfl rfl (by kernel_rfl) (by kernel_rfl) (by kernel_rfl) (fun _ _ _ h => h) (by rfl) ?hy98 (by assumption) ?rest98
            case hy98 => (intro w hSw; (try dsimp only at hSw); go_simp; try with_reducible rfl)
            case' rest98 => try simp only [Act.put, List.setIfInBounds_toArray, List.set_cons_zero, List.set_cons_succ]
            refine Drawn.take (i := 14) (d := some 319) (v := ?v99) rfl rfl (by kernel_rfl) (by kernel_rfl) (by kernel_rfl) (fun _ _ _ h => h) (by rfl) ?hy99 (by assumption) ?rest99
            case hy99 => (intro w hSw; (try dsimp only at hSw); go_simp; try with_reducible rfl)
            case' rest99 => try simp only [Act.put, List.setIfInBounds_toArray, List.set_cons_zero, List.set_cons_succ]
            refine Drawn.take (i := 15) (d := some 320) (v := ?v100) rfl rfl (by kernel_rfl) (by kernel_rfl) (by kernel_rfl) (fun _ _ _ h => h) (by rfl) ?hy100 (by assumption) ?rest100
            case hy100 => (intro w hSw; (try dsimp only at hSw); go_simp; try with_reducible rfl)
            case' rest100 => try simp only [Act.put, List.setIfInBounds_toArray, List.set_cons_zero, List.set_cons_succ]
            refine Drawn.take (i := 16) (d := some 321) (v := ?v101) rfl rfl (by kernel_rfl) (by kernel_rfl) (by kernel_rfl) (fun _ _ _ h => h) (by rfl) ?hy101 (by assumption) ?rest101
            case hy101 => (intro w hSw; (try dsimp only at hSw); go_simp; try with_reducible rfl)
            case' rest101 => try simp only [Act.put, List.setIfInBounds_toArray, List.set_cons_zero, List.set_cons_succ]
            refine Drawn.take (i := 17) (d := some 322) (v := ?v102) rfl rfl (by kernel_rfl) (by kernel_rfl) (by kernel_rfl) (fun _ _ _ h => h) (by rfl) ?hy102 (by assumption) ?rest102
            case hy102 => (intro w hSw; (try dsimp only at hSw); go_simp; try with_reducible rfl)
            case' rest102 => try simp only [Act.put, List.setIfInBounds_toArray, List.set_cons_zero, List.set_cons_succ]
            refine Drawn.take (i := 18) (d := some 323) (v := ?v103) rfl rfl (by kernel_rfl) (by kernel_rfl) (by kernel_rfl) (fun _ _ _ h => h) (by rfl) ?hy103 (by assumption) ?rest103
            case hy103 => (intro w hSw; (try dsimp only at hSw); go_simp; try with_reducible rfl)
            case' rest103 => try simp only [Act.put, List.setIfInBounds_toArray, List.set_cons_zero, List.set_cons_succ]
            refine Drawn.take (i := 19) (d := some 324) (v := ?v104) rfl rfl (by kernel_rfl) (by kernel_rfl) (by kernel_rfl) (fun _ _ _ h => h) (by rfl) ?hy104 (by assumption) ?rest104
            case hy104 => (intro w hSw; (try dsimp only at hSw); go_simp; try with_reducible rfl)
            case' rest104 => try simp only [Act.put, List.setIfInBounds_toArray, List.set_cons_zero, List.set_cons_succ]
            refine Drawn.take (i := 20) (d := some 325) (v := ?v105) rfl rfl (by kernel_rfl) (by kernel_rfl) (by kernel_rfl) (fun _ _ _ h => h) (by rfl) ?hy105 (by assumption) ?rest105
            case hy105 => (intro w hSw; (try dsimp only at hSw); go_simp; try with_reducible rfl)
            case' rest105 => try simp only [Act.put, List.setIfInBounds_toArray, List.set_cons_zero, List.set_cons_succ]
            refine Drawn.take (i := 21) (d := some 326) (v := ?v106) rfl rfl (by kernel_rfl) (by kernel_rfl) (by kernel_rfl) (fun _ _ _ h => h) (by rfl) ?hy106 (by assumption) ?rest106
            case hy106 => (intro w hSw; (try dsimp only at hSw); go_simp; try with_reducible rfl)
            case' rest106 => try simp only [Act.put, List.setIfInBounds_toArray, List.set_cons_zero, List.set_cons_succ]
            refine wpAnyH_done (by kernel_rfl) ?_ _
            go_wp2_with fail
            go_ret
            exact ⟨ret_bool hX.out.symm, hwr.drew⟩
          have hl' : ((args.length : Int) != (x.params.length : Int)) = false := by simp; omega
          have HL := Lib.hid hl
          clear hl
          have hX : Hid (Rform.ins f m ⟨18, (k : Int), b, c, n, args⟩ = Rform.regsOk m.regs x.params args) := by
            show _ = _
            rw [hXX.out, hmp.out, hpr.out, decide_eq_true HL.out]; simp
          go_wp2_with fail
          refine wp_region_held_drew (S := fun w' => w'.cell? ⟨w.heap.size + 1 + 1, 1, none⟩ = some (.int .i64 (k : Int)) ∧ w'.cell? ⟨w.heap.size, 1, none⟩ = some (.slice (some ⟨b0, o0, none⟩) f.methods.length mcap) ∧ w'.cell? ⟨w.heap.size + 1 + 1, 5, none⟩ = some (.slice aa args.length acap) ∧ w'.cell? ⟨b0, o0 + k * 8, none⟩ = some (.slice pa x.params.length pcap)) (by kernel_rfl) (by (try dsimp only); first | exact ⟨y1, c1, y5, g4⟩ | go_keep) (fun hHeld => ?_)
          refine Drawn.take (i := 0) (d := some 305) (v := ?v107) rfl rfl (by kernel_rfl) (by kernel_rfl) (by kernel_rfl) (fun _ _ _ h => h) (by rfl) ?hy107 (by assumption) ?rest107
          case hy107 => (intro w hSw; (try dsimp only at hSw); go_simp; try with_reducible rfl)
          case' rest107 => try simp only [Act.put, List.setIfInBounds_toArray, List.set_cons_zero, List.set_cons_succ]
          refine Drawn.take (i := 1) (d := some 306) (v := ?v108) rfl rfl (by kernel_rfl) (by kernel_rfl) (by kernel_rfl) (fun _ _ _ h => h) (by rfl) ?hy108 (by assumption) ?rest108
          case hy108 => (intro w hSw; (try dsimp only at hSw); go_simp; try with_reducible rfl)
          case' rest108 => try simp only [Act.put, List.setIfInBounds_toArray, List.set_cons_zero, List.set_cons_succ]
          refine Drawn.take (i := 2) (d := some 307) (v := ?v109) rfl rfl (by kernel_rfl) (by kernel_rfl) (by kernel_rfl) (fun _ _ _ h => h) (by rfl) ?hy109 (by assumption) ?rest109
          case hy109 => (intro w hSw; (try dsimp only at hSw); go_simp; try with_reducible rfl)
          case' rest109 => try simp only [Act.put, List.setIfInBounds_toArray, List.set_cons_zero, List.set_cons_succ]
          refine Drawn.take (i := 3) (d := some 308) (v := ?v110) rfl rfl (by kernel_rfl) (by kernel_rfl) (by kernel_rfl) (fun _ _ _ h => h) (by rfl) ?hy110 (by assumption) ?rest110
          case hy110 => (intro w hSw; (try dsimp only at hSw); go_simp; try with_reducible rfl)
          case' rest110 => try simp only [Act.put, List.setIfInBounds_toArray, List.set_cons_zero, List.set_cons_succ]
          refine Drawn.take (i := 4) (d := some 309) (v := ?v111) rfl rfl (by kernel_rfl) (by kernel_rfl) (by kernel_rfl) (fun _ _ _ h => h) (by rfl) ?hy111 (by assumption) ?rest111
          case hy111 => (intro w hSw; (try dsimp only at hSw); go_simp; try with_reducible rfl)
          case' rest111 => try simp only [Act.put, List.setIfInBounds_toArray, List.set_cons_zero, List.set_cons_succ]
          refine Drawn.take (i := 5) (d := some 310) (v := ?v112) rfl rfl (by kernel_rfl) (by kernel_rfl) (by kernel_rfl) (fun _ _ _ h => h) (by rfl) ?hy112 (by assumption) ?rest112
          case hy112 => (intro w hSw; (try dsimp only at hSw); go_simp; try with_reducible rfl)
          case' rest112 => try simp only [Act.put, List.setIfInBounds_toArray, List.set_cons_zero, List.set_cons_succ]
          refine wpAnyH_ready (rs := [6]) (by kernel_rfl) (by simp) ?_
          refine AllReadyH.cons rfl (fun K hK => ?_) AllReadyH.nil
          go_simp
          go_at_call 48
          refine (wi _ _ _ _).mono ?_
          rintro e w2 ⟨rfl, rfl⟩
          rw [hpf]
          go_wp2_with fail
          refine hK.out _ _ (by (try dsimp only); exact ⟨y1, c1, y5, g4⟩) (fun hHeld => ?_)
          clear hK K
          try simp only [Act.put, List.setIfInBounds_toArray, List.set_cons_zero, List.set_cons_succ]
          refine Drawn.take (i := 7) (d := some 312) (v := ?v113) rfl rfl (by kernel_rfl) (by kernel_rfl) (by kernel_rfl) (fun _ _ _ h => h) (by rfl) ?hy113 (by assumption) ?rest113
          case hy113 => (intro w hSw; (try dsimp only at hSw); go_simp; try with_reducible rfl)
          case' rest113 => try simp only [Act.put, List.setIfInBounds_toArray, List.set_cons_zero, List.set_cons_succ]
          refine Drawn.take (i := 8) (d := some 313) (v := ?v114) rfl rfl (by kernel_rfl) (by kernel_rfl) (by kernel_rfl) (fun _ _ _ h => h) (by rfl) ?hy114 (by assumption) ?rest114
          case hy114 => (intro w hSw; (try dsimp only at hSw); go_simp; try with_reducible rfl)
          case' rest114 => try simp only [Act.put, List.setIfInBounds_toArray, List.set_cons_zero, List.set_cons_succ]
          refine Drawn.take (i := 9) (d := some 314) (v := ?v115) rfl rfl (by kernel_rfl) (by kernel_rfl) (by kernel_rfl) (fun _ _ _ h => h) (by rfl) ?hy115 (by assumption) ?rest115
          case hy115 => (intro w hSw; (try dsimp only at hSw); go_simp; try with_reducible rfl)
          case' rest115 => try simp only [Act.put, List.setIfInBounds_toArray, List.set_cons_zero, List.set_cons_succ]
          refine Drawn.take (i := 10) (d := some 315) (v := ?v116) rfl rfl (by kernel_rfl) (by kernel_rfl) (by kernel_rfl) (fun _ _ _ h => h) (by rfl) ?hy116 (by assumption) ?rest116
          case hy116 => (intro w hSw; (try dsimp only at hSw); go_simp; try with_reducible rfl)
          case' rest116 => try simp only [Act.put, List.setIfInBounds_toArray, List.set_cons_zero, List.set_cons_succ]
          refine Drawn.take (i := 11) (d := some 316) (v := ?v117) rfl rfl (by kernel_rfl) (by kernel_rfl) (by kernel_rfl) (fun _ _ _ h => h) (by rfl) ?hy117 (by assumption) ?rest117
          case hy117 => (intro w hSw; (try dsimp only at hSw); go_simp; try with_reducible rfl)
          case' rest117 => try simp only [Act.put, List.setIfInBounds_toArray, List.set_cons_zero, List.set_cons_succ]
          refine Drawn.take (i := 12) (d := some 317) (v := ?v118) rfl rfl (by kernel_rfl) (by kernel_rfl) (by kernel_rfl) (fun _ _ _ h => h) (by rfl) ?hy118 (by assumption) ?rest118
          case hy118 => (intro w hSw; (try dsimp only at hSw); go_simp; try with_reducible rfl)
          case' rest118 => try simp only [Act.put, List.setIfInBounds_toArray, List.set_cons_zero, List.set_cons_succ]
          refine Drawn.take (i := 13) (d := some 318) (v := ?v119) rfl rfl (by kernel_rfl) (by kernel_rfl) (by kernel_rfl) (fun _ _ _ h => h) (by rfl) ?hy119 (by assumption) ?rest119
          case hy119 => (intro w hSw; (try dsimp only at hSw); go_simp; try with_reducible rfl)
          case' rest119 => try simp only [Act.put, List.setIfInBounds_toArray, List.set_cons_zero, List.set_cons_succ]
          refine Drawn.take (i := 14) (d := some 319) (v := ?v120) rfl rfl (by kernel_rfl) (by kernel_rfl) (by kernel_rfl) (fun _ _ _ h => h) (by rfl) ?hy120 (by assumption) ?rest120
          case hy120 => (intro w hSw; (try dsimp only at hSw); go_simp; try with_reducible rfl)
          case' rest120 => try simp only [Act.put, List.setIfInBounds_toArray, List.set_cons_zero, List.set_cons_succ]
          refine Drawn.take (i := 15) (d := some 320) (v := ?v121) rfl rfl (by kernel_rfl) (by kernel_rfl) (by kernel_rfl) (fun _ _ _ h => h) (by rfl) ?hy121 (by assumption) ?rest121
          case hy121 => (intro w hSw; (try dsimp only at hSw); go_simp; try with_reducible rfl)
          case' rest121 => try simp only [Act.put, List.setIfInBounds_toArray, List.set_cons_zero, List.set_cons_succ]
          refine Drawn.take (i := 16) (d := some 321) (v := ?v122) rfl rfl (by kernel_rfl) (by kernel_rfl) (by kernel_rfl) (fun _ _ _ h => h) (by rfl) ?hy122 (by assumption) ?rest122
          case hy122 => (intro w hSw; (try dsimp only at hSw); go_simp; try with_reducible rfl)
          case' rest122 => try simp only [Act.put, List.setIfInBounds_toArray, List.set_cons_zero, List.set_cons_succ]
          refine Drawn.take (i := 17) (d := some 322) (v := ?v123) rfl rfl (by kernel_rfl) (by kernel_rfl) (by kernel_rfl) (fun _ _ _ h => h) (by rfl) ?hy123 (by assumption) ?rest123
          case hy123 => (intro w hSw; (try dsimp only at hSw); go_simp; try with_reducible rfl)
          case' rest123 => try simp only [Act.put, List.setIfInBounds_toArray, List.set_cons_zero, List.set_cons_succ]
          refine Drawn.take (i := 18) (d := some 323) (v := ?v124) rfl rfl (by kernel_rfl) (by kernel_rfl) (by kernel_rfl) (fun _ _ _ h => h) (by rfl) ?hy124 (by assumption) ?rest124
          case hy124 => (intro w hSw; (try dsimp only at hSw); go_simp; try with_reducible rfl)
          case' rest124 => try simp only [Act.put, List.setIfInBounds_toArray, List.set_cons_zero, List.set_cons_succ]
          refine Drawn.take (i := 19) (d := some 324) (v := ?v125) rfl rfl (by kernel_rfl) (by kernel_rfl) (by kernel_rfl) (fun _ _ _ h => h) (by rfl) ?hy125 (by assumption) ?rest125
          case hy125 => (intro w hSw; (try dsimp only at hSw); go_simp; try with_reducible rfl)
          case' rest125 => try simp only [Act.put, List.setIfInBounds_toArray, List.set_cons_zero, List.set_cons_succ]
          refine Drawn.take (i := 20) (d := some 325) (v := ?v126) rfl rfl (by kernel_rfl) (by kernel_rfl) (by kernel_rfl) (fun _ _ _ h => h) (by rfl) ?hy126 (by assumption) ?rest126
          case hy126 => (intro w hSw; (try dsimp only at hSw); go_simp; try with_reducible rfl)
          case' rest126 => try simp only [Act.put, List.setIfInBounds_toArray, List.set_cons_zero, List.set_cons_succ]
          refine Drawn.take (i := 21) (d := some 326) (v := ?v127) rfl rfl (by kernel_rfl) (by kernel_rfl) (by kernel_rfl) (fun _ _ _ h => h) (by rfl) ?hy127 (by assumption) ?rest127
          case hy127 => (intro w hSw; (try dsimp only at hSw); go_simp; try with_reducible rfl)
          case' rest127 => try simp only [Act.put, List.setIfInBounds_toArray, List.set_cons_zero, List.set_cons_succ]
          refine wpAnyH_done (by kernel_rfl) ?_ _
          clear hpf hsub hl'
          obtain ⟨wo, rfl⟩ : ∃ wo : World, wo = wr := ⟨_, rfl⟩
          go_wp2_with fail
          go_loopw [13] (fun i wr => ∃ j : Nat, j ≤ args.length ∧ i = .int .i64 j ∧ Below wo.heap.size wo wr ∧ Hid (∀ t, t < j → Rform.reg m.regs (args.getD t 0) (x.params.getD t ⟨0, 0⟩).kind = true)) (fun i _ => args.length - (intOf i).toNat)
          case atStart => exact ⟨0, by omega, rfl, (Below.refl _ _).drew, fun t h => absurd h (by omega)⟩
          case round =>
            obtain ⟨j, hj, rfl, hq, hall⟩ := hrel
            have hqs := hq.size
            have hww : Below w.heap.size w wr := hwr.trans (hq.mono hwr.size)
            have q0 := kept hq (lt_cell d0) d0
            have q1 := kept hq (lt_cell d1) d1
            have q2 := kept hq (lt_cell d2) d2
            have q3 := kept hq (lt_cell d3) d3
            have q4 := kept hq (lt_cell d4) d4
            have q5 := kept hq (lt_cell d5) d5
            have q6 := kept hq (lt_cell d6) d6
            have q7 := kept hq (lt_cell d7) d7
            have r1 := kept hq (lt_cell y1) y1
            have r5 := kept hq (lt_cell y5) y5
            have s1 := kept hq (lt_cell c1) c1
            have s4 := kept hq (lt_cell g4) g4
            clear d0 d1 d2 d3 d4 d5 d6 d7 y0 y1 y2 y3 y4 y5 c0 c1 g4
            by_cases hlt2 : j < args.length
            · have hjp : j < x.params.length := by have := HL.out; omega
              obtain ⟨ab, ao, rfl, hab, hae⟩ := ael2.out j hlt2
              obtain ⟨fb, fo, rfl, hfb, hfe⟩ := pel2.out j hjp
              have hga : Hid (args.getD j 0 = args[j]) := by show _ = _; simp [hlt2]
              have hgp : Hid (x.params.getD j ⟨0, 0⟩ = x.params[j]) := by show _ = _; simp [hjp]
              obtain ⟨y, hy⟩ := at_of hlt2
              obtain ⟨t, ht⟩ := at_of hjp
              rw [hy.out] at hae hga
              rw [ht.out] at hfe hgp
              have u1 := kept hww hab hae.1
              rw [Nat.mul_one] at u1
              have u2 := kept hww hfb hfe.1
              obtain ⟨p2, hp2⟩ : ∃ p, Hid (Rform.reg m.regs y t.kind = p) := ⟨_, rfl⟩
              have hyes : Hid (p2 = true → ∀ u, u < j + 1 → Rform.reg m.regs (args.getD u 0) (x.params.getD u ⟨0, 0⟩).kind = true) := by
                intro h u hu
                by_cases e : u = j
                · subst e; rw [hga.out, hgp.out, hp2.out]; exact h
                · exact hall.out u (by omega)
              have hno : Hid (p2 = false → Rform.regsOk m.regs x.params args = false) := by
                intro h
                unfold Rform.regsOk
                rw [List.all_eq_false]
                exact ⟨j, by simpa using hjp, by rw [hga.out, hgp.out, hp2.out, h]; simp⟩
              have hI1 : (0 : Int) ≤ (j : Int) ∧ (j : Int) < args.length := ⟨by omega, by omega⟩
              have hI2 : (j : Int) < args.length := by omega
              have hI3 : (j : Int) < x.params.length := by omega
              clear hae hfe
              go_wp2_with fail
              refine wp_region_held_drew (S := fun w' => (w'.cell? ⟨w.heap.size + 1 + 1, 1, none⟩ = some (.int .i64 (k : Int)) ∧ w'.cell? ⟨w.heap.size + 1 + 1, 5, none⟩ = some (.slice (some ⟨ab, ao, none⟩) args.length acap) ∧ w'.cell? ⟨w.heap.size, 1, none⟩ = some (.slice (some ⟨b0, o0, none⟩) f.methods.length mcap) ∧ w'.cell? ⟨b0, o0 + k * 8, none⟩ = some (.slice (some ⟨fb, fo, none⟩) x.params.length pcap) ∧ w'.cell? ⟨ab, ao + j, none⟩ = some (.int .i64 y) ∧ w'.cell? ⟨fb, fo + j * 2, none⟩ = some (.int .i64 t.kind)) ∧ w'.cell? ⟨w.heap.size + 1, 0, none⟩ = some vp ∧ w'.cell? ⟨w.heap.size + 1, 1, none⟩ = some (.int .i64 m.ret.kind) ∧ w'.cell? ⟨w.heap.size + 1, 2, none⟩ = some (.int .i64 m.ret.cls) ∧ w'.cell? ⟨w.heap.size + 1, 3, none⟩ = some (.int .i64 m.stack) ∧ w'.cell? ⟨w.heap.size + 1, 4, none⟩ = some (.int .i64 m.locals) ∧ w'.cell? ⟨w.heap.size + 1, 5, none⟩ = some (.int .i64 m.regs) ∧ w'.cell? ⟨w.heap.size + 1, 6, none⟩ = some (.slice da m.code.length dcap) ∧ w'.cell? ⟨w.heap.size + 1, 7, none⟩ = some vh) (by kernel_rfl) (by (try dsimp only); first | exact ⟨⟨r1, r5, s1, s4, u1, u2⟩, q0, q1, q2, q3, q4, q5, q6, q7⟩ | go_keep) (fun hHeld => ?_)
              refine Drawn.take (i := 0) (d := some 334) (v := ?v128) rfl rfl (by kernel_rfl) (by kernel_rfl) (by kernel_rfl) (fun _ _ _ h => h) (by rfl) ?hy128 (by assumption) ?rest128
              case hy128 => (intro w hSw; (try dsimp only at hSw); go_simp; try with_reducible rfl)
              case' rest128 => try simp only [Act.put, List.setIfInBounds_toArray, List.set_cons_zero, List.set_cons_succ]
              refine Drawn.take (i := 1) (d := some 335) (v := ?v129) rfl rfl (by kernel_rfl) (by kernel_rfl) (by kernel_rfl) (fun _ _ _ h => h) (by rfl) ?hy129 (by assumption) ?rest129
              case hy129 => (intro w hSw; (try dsimp only at hSw); go_simp; try with_reducible rfl)
              case' rest129 => try simp only [Act.put, List.setIfInBounds_toArray, List.set_cons_zero, List.set_cons_succ]
              refine Drawn.take (i := 2) (d := some 336) (v := ?v130) rfl rfl (by kernel_rfl) (by kernel_rfl) (by kernel_rfl) (fun _ _ _ h => h) (by rfl) ?hy130 (by assumption) ?rest130
              case hy130 => (intro w hSw; (try dsimp only at hSw); go_simp; try with_reducible rfl)
              case' rest130 => try simp only [Act.put, List.setIfInBounds_toArray, List.set_cons_zero, List.set_cons_succ]
              refine Drawn.take (i := 3) (d := some 337) (v := ?v131) rfl rfl (by kernel_rfl) (by kernel_rfl) (by kernel_rfl) (fun _ _ _ h => h) (by rfl) ?hy131 (by assumption) ?rest131
              case hy131 => (intro w hSw; (try dsimp only at hSw); go_simp; try with_reducible rfl)
              case' rest131 => try simp only [Act.put, List.setIfInBounds_toArray, List.set_cons_zero, List.set_cons_succ]
              refine Drawn.take (i := 4) (d := some 338) (v := ?v132) rfl rfl (by kernel_rfl) (by kernel_rfl) (by kernel_rfl) (fun _ _ _ h => h) (by rfl) ?hy132 (by assumption) ?rest132
              case hy132 => (intro w hSw; (try dsimp only at hSw); go_simp; try with_reducible rfl)
              case' rest132 => try simp only [Act.put, List.setIfInBounds_toArray, List.set_cons_zero, List.set_cons_succ]
              refine Drawn.take (i := 5) (d := some 339) (v := ?v133) rfl rfl (by kernel_rfl) (by kernel_rfl) (by kernel_rfl) (fun _ _ _ h => h) (by rfl) ?hy133 (by assumption) ?rest133
              case hy133 => (intro w hSw; (try dsimp only at hSw); go_simp; try with_reducible rfl)
              case' rest133 => try simp only [Act.put, List.setIfInBounds_toArray, List.set_cons_zero, List.set_cons_succ]
              refine Drawn.take (i := 6) (d := some 340) (v := ?v134) rfl rfl (by kernel_rfl) (by kernel_rfl) (by kernel_rfl) (fun _ _ _ h => h) (by rfl) ?hy134 (by assumption) ?rest134
              case hy134 => (intro w hSw; (try dsimp only at hSw); go_simp; try with_reducible rfl)
              case' rest134 => try simp only [Act.put, List.setIfInBounds_toArray, List.set_cons_zero, List.set_cons_succ]
              refine Drawn.take (i := 7) (d := some 341) (v := ?v135) rfl rfl (by kernel_rfl) (by kernel_rfl) (by kernel_rfl) (fun _ _ _ h => h) (by rfl) ?hy135 (by assumption) ?rest135
              case hy135 => (intro w hSw; (try dsimp only at hSw); go_simp; try with_reducible rfl)
              case' rest135 => try simp only [Act.put, List.setIfInBounds_toArray, List.set_cons_zero, List.set_cons_succ]
              refine Drawn.take (i := 8) (d := some 342) (v := ?v136) rfl rfl (by kernel_rfl) (by kernel_rfl) (by kernel_rfl) (fun _ _ _ h => h) (by rfl) ?hy136 (by assumption) ?rest136
              case hy136 => (intro w hSw; (try dsimp only at hSw); go_simp; try with_reducible rfl)
              case' rest136 => try simp only [Act.put, List.setIfInBounds_toArray, List.set_cons_zero, List.set_cons_succ]
              refine Drawn.take (i := 9) (d := some 343) (v := ?v137) rfl rfl (by kernel_rfl) (by kernel_rfl) (by kernel_rfl) (fun _ _ _ h => h) (by rfl) ?hy137 (by assumption) ?rest137
              case hy137 => (intro w hSw; (try dsimp only at hSw); go_simp; try with_reducible rfl)
              case' rest137 => try simp only [Act.put, List.setIfInBounds_toArray, List.set_cons_zero, List.set_cons_succ]
              refine Drawn.take (i := 10) (d := some 344) (v := ?v138) rfl rfl (by kernel_rfl) (by kernel_rfl) (by kernel_rfl) (fun _ _ _ h => h) (by rfl) ?hy138 (by assumption) ?rest138
              case hy138 => (intro w hSw; (try dsimp only at hSw); go_simp; try with_reducible rfl)
              case' rest138 => try simp only [Act.put, List.setIfInBounds_toArray, List.set_cons_zero, List.set_cons_succ]
              refine Drawn.take (i := 11) (d := some 345) (v := ?v139) rfl rfl (by kernel_rfl) (by kernel_rfl) (by kernel_rfl) (fun _ _ _ h => h) (by rfl) ?hy139 (by assumption) ?rest139
              case hy139 => (intro w hSw; (try dsimp only at hSw); go_simp; try with_reducible rfl)
              case' rest139 => try simp only [Act.put, List.setIfInBounds_toArray, List.set_cons_zero, List.set_cons_succ]
              refine Drawn.take (i := 12) (d := some 346) (v := ?v140) rfl rfl (by kernel_rfl) (by kernel_rfl) (by kernel_rfl) (fun _ _ _ h => h) (by rfl) ?hy140 (by assumption) ?rest140
              case hy140 => (intro w hSw; (try dsimp only at hSw); go_simp; try with_reducible rfl)
              case' rest140 => try simp only [Act.put, List.setIfInBounds_toArray, List.set_cons_zero, List.set_cons_succ]
              refine Drawn.take (i := 13) (d := some 347) (v := ?v141) rfl rfl (by kernel_rfl) (by kernel_rfl) (by kernel_rfl) (fun _ _ _ h => h) (by rfl) ?hy141 (by assumption) ?rest141
              case hy141 => (intro w hSw; (try dsimp only at hSw); go_simp; try with_reducible rfl)
              case' rest141 => try simp only [Act.put, List.setIfInBounds_toArray, List.set_cons_zero, List.set_cons_succ]
              refine Drawn.take (i := 14) (d := some 348) (v := ?v142) rfl rfl (by kernel_rfl) (by kernel_rfl) (by kernel_rfl) (fun _ _ _ h => h) (by rfl) ?hy142 (by assumption) ?rest142
              case hy142 => (intro w hSw; (try dsimp only at hSw); go_simp; try with_reducible rfl)
              case' rest142 => try simp only [Act.put, List.setIfInBounds_toArray, List.set_cons_zero, List.set_cons_succ]
              refine Drawn.take (i := 15) (d := some 349) (v := ?v143) rfl rfl (by kernel_rfl) (by kernel_rfl) (by kernel_rfl) (fun _ _ _ h => h) (by rfl) ?hy143 (by assumption) ?rest143
              case hy143 => (intro w hSw; (try dsimp only at hSw); go_simp; try with_reducible rfl)
              case' rest143 => try simp only [Act.put, List.setIfInBounds_toArray, List.set_cons_zero, List.set_cons_succ]
              refine Drawn.take (i := 16) (d := some 350) (v := ?v144) rfl rfl (by kernel_rfl) (by kernel_rfl) (by kernel_rfl) (fun _ _ _ h => h) (by rfl) ?hy144 (by assumption) ?rest144
              case hy144 => (intro w hSw; (try dsimp only at hSw); go_simp; try with_reducible rfl)
              case' rest144 => try simp only [Act.put, List.setIfInBounds_toArray, List.set_cons_zero, List.set_cons_succ]
              refine wpAnyH_ready (rs := [17]) (by kernel_rfl) (by simp) ?_
              refine AllReadyH.cons rfl (fun K hK => ?_) AllReadyH.nil
              go_simp
              go_at_call 90
              refine (regV m _ _ p2 _ _ hp2.out (hm0.out.mono hww.drew (by have := hww.size; simpa using this)) hr.out).mono ?_
              rintro e w6 ⟨rfl, hb6⟩
              have hb7 : Below wr.heap.size wr w6 := Below.trans (by repeat' (first | with_reducible exact Below.refl _ _ | with_reducible assumption | exact Nat.le_refl _ | with_reducible refine Go.Proofs.Ytncmhenfgbcihaa.Rd.below_drewN ?_ _ | with_reducible refine Below.alloc ?_ ?_ _ | with_reducible refine Below.setCell ?_ ?_ _ | with_reducible refine Below.drew ?_ | omega | (simp; omega) | (simp; done))) (hb6.mono (by simp))
              go_wp2_with fail
              refine hK.out _ _ (by (try dsimp only); exact ⟨⟨kept hb7 (lt_cell r1) r1, kept hb7 (lt_cell r5) r5, kept hb7 (lt_cell s1) s1, kept hb7 (lt_cell s4) s4, kept hb7 (lt_cell u1) u1, kept hb7 (lt_cell u2) u2⟩, kept hb7 (lt_cell q0) q0, kept hb7 (lt_cell q1) q1, kept hb7 (lt_cell q2) q2, kept hb7 (lt_cell q3) q3, kept hb7 (lt_cell q4) q4, kept hb7 (lt_cell q5) q5, kept hb7 (lt_cell q6) q6, kept hb7 (lt_cell q7) q7⟩) (fun hHeld => ?_)
              clear hK K
              try simp only [Act.put, List.setIfInBounds_toArray, List.set_cons_zero, List.set_cons_succ]
              refine Drawn.take (i := 18) (d := some 352) (v := ?v145) rfl rfl (by kernel_rfl) (by kernel_rfl) (by kernel_rfl) (fun _ _ _ h => h) (by rfl) ?hy145 (by assumption) ?rest145
              case hy145 => (intro w hSw; (try dsimp only at hSw); go_simp; try with_reducible rfl)
              case' rest145 => try simp only [Act.put, List.setIfInBounds_toArray, List.set_cons_zero, List.set_cons_succ]
              refine wpAnyH_done (by kernel_rfl) ?_ _
              cases p2
              · go_wp2_with fail
                go_ret
                exact ⟨ret_bool (hX.out.trans (hno.out (by first | rfl | trivial))).symm, hww.trans (hb7.mono hww.size)⟩
              · go_wp2_with fail
                go_roundw
                case rel => exact ⟨j + 1, by omega, by go_num, hq.trans (hb7.mono hqs), hyes.out (by first | rfl | trivial)⟩
                case measure => simp [intOf]; omega
            · have hge : ¬ (j : Int) < args.length := by omega
              have hfin : Hid (Rform.regsOk m.regs x.params args = true) := by
                show _ = _
                unfold Rform.regsOk
                rw [List.all_eq_true]
                intro u hu
                exact hall.out u (by have := HL.out; simp at hu; omega)
              go_wp2_with fail
              go_ret
              exact ⟨ret_bool (hX.out.trans hfin.out).symm, hww⟩
      exfalso
      have h := hop2.out
      omega
end RefG
end Go.Proofs.Ytncmhenfgbcihaa
