/- The walk through sform.method. -/
import Derived.Test.YtncmhenfgbcihabFormF
import Derived.Test.YtncmhenfgbcihabFormH
import Derived.Test.YtncmhenfgbcihabDrawn
namespace Go.Proofs.Ytncmhenfgbcihab
open Go.RowKit
set_option linter.unusedSimpArgs false
set_option linter.unusedVariables false
namespace FormW
open Num Rd D HierW

theorem headV (f : Fi) (m : Me) (most : Int) (p : Bool) (vf vm : Value) (w : World) (hp : Form.head f.classes.length m most = p) (hf : VFi w w.heap.size vf f) (hm : VMe w w.heap.size vm m) (hmost : 0 ≤ most ∧ most ≤ 100000) :
    Calls Try.prog 111 #[vf, vm, .int .i64 most] w fun e w' => e = .returned (.bool p) ∧ Below w.heap.size w w' := by
  subst hp; exact head f m most vf vm w hf hm hmost

theorem fieldsV (f : Fi) (m : Me) (i : Ins) (pa pb pn : Bool) (vf vm vi : Value) (w : World) (ha : Form.sa f.classes f.methods.length m.code.length m.locals i = pa) (hb : Form.sb f.classes i = pb) (hn : Form.sn i = pn)
    (hf : VFi w w.heap.size vf f) (hm : VMe w w.heap.size vm m) (hi : VIns w w.heap.size vi i) (hloc : 0 ≤ m.locals ∧ m.locals ≤ 60) :
    Calls Try.prog 142 #[vf, vm, vi] w fun e w' => e = .returned (.tuple #[.bool pa, .bool pb, .bool pn]) ∧ Below w.heap.size w w' := by
  subst ha hb hn; exact fields f m i vf vm vi w hf hm hi hloc

/-- the two boxes -/
def B2 (w : World) (n : Nat) (v0 v1 : Value) : Prop := w.cell? ⟨n, 0, none⟩ = some v0 ∧ w.cell? ⟨n, 1, none⟩ = some v1
def B8 (w : World) (n : Nat) (v0 v1 v2 v3 v4 v5 v6 v7 : Value) : Prop := w.cell? ⟨n, 0, none⟩ = some v0 ∧ w.cell? ⟨n, 1, none⟩ = some v1 ∧ w.cell? ⟨n, 2, none⟩ = some v2 ∧ w.cell? ⟨n, 3, none⟩ = some v3 ∧
  w.cell? ⟨n, 4, none⟩ = some v4 ∧ w.cell? ⟨n, 5, none⟩ = some v5 ∧ w.cell? ⟨n, 6, none⟩ = some v6 ∧ w.cell? ⟨n, 7, none⟩ = some v7
theorem B2.next {w w' : World} {B n : Nat} {v0 v1 : Value} (h : B2 w n v0 v1) (hb : Below B w w') (hlt : n < B) : B2 w' n v0 v1 := ⟨kept hb hlt h.1, kept hb hlt h.2⟩
theorem B8.next {w w' : World} {B n : Nat} {v0 v1 v2 v3 v4 v5 v6 v7 : Value} (h : B8 w n v0 v1 v2 v3 v4 v5 v6 v7) (hb : Below B w w') (hlt : n < B) : B8 w' n v0 v1 v2 v3 v4 v5 v6 v7 := by
  obtain ⟨h0, h1, h2, h3, h4, h5, h6, h7⟩ := h
  exact ⟨kept hb hlt h0, kept hb hlt h1, kept hb hlt h2, kept hb hlt h3, kept hb hlt h4, kept hb hlt h5, kept hb hlt h6, kept hb hlt h7⟩

set_option maxRecDepth 100000 in
set_option maxHeartbeats 8000000 in
theorem method (f : Fi) (m : Me) (vf vm : Value) (w : World) (hf : VFi w w.heap.size vf f) (hm : VMe w w.heap.size vm m) :
    Calls Try.prog 90 #[vf, vm] w fun e w' => e = .returned (.bool (Form.sme f m)) ∧ Below w.heap.size w w' := by
  have hf0 := hf
  have hm0 := hm
  obtain ⟨vc, vme, rfl, _, _⟩ := hf
  obtain ⟨vp, vcd, vh, rfl, ⟨ok1, ok2, ok3, ok4, ok5⟩, hpar, ⟨da, dcap, rfl, dlc, dcc, del⟩, _⟩ := hm
  unfold Ok at ok1 ok2 ok3 ok4 ok5
  obtain ⟨pa, pcap, rfl, plc, pcc, pel⟩ := hpar
  have hts0 : Ts w (.slice pa m.params.length pcap) m.params := ⟨pa, pcap, rfl, plc, pcc, pel⟩
  clear pel
  obtain ⟨S, hS⟩ : ∃ S, Hid (Form.slots m.params = S) := ⟨_, rfl⟩
  obtain ⟨ph, hph⟩ : ∃ p, Hid (Form.head f.classes.length m 400 = p) := ⟨_, rfl⟩
  obtain ⟨pst, hps⟩ : ∃ p, Hid (Form.rng m.stack 0 31 = p) := ⟨_, rfl⟩
  obtain ⟨pl, hpl⟩ : ∃ p, Hid (Form.rng m.locals S 61 = p) := ⟨_, rfl⟩
  have hsme : Hid (Form.sme f m = (ph && decide (m.regs = 0) && pst && pl && m.code.all (Form.sins f.classes f.methods.length m.code.length m.locals))) := by
    show _ = _
    rw [← hph.out, ← hps.out, ← hpl.out, ← hS.out]; rfl
  go_enter Try.func90, Try.ntmps90
  go_wp2_with fail
  refine name_world (fun W => Below w.heap.size w W ∧ w.heap.size + 2 ≤ W.heap.size ∧ B2 W w.heap.size vc vme ∧ B8 W (w.heap.size + 1) (.slice pa m.params.length pcap) (.int .i64 m.ret.kind) (.int .i64 m.ret.cls) (.int .i64 m.stack) (.int .i64 m.locals) (.int .i64 m.regs) (.slice da m.code.length dcap) vh)
    ?_ ?_
  · refine ⟨(by repeat' (first | with_reducible exact Below.refl _ _ | with_reducible assumption | exact Nat.le_refl _ | with_reducible refine Go.Proofs.Ytncmhenfgbcihab.Rd.below_drewN ?_ _ | with_reducible refine Below.alloc ?_ ?_ _ | with_reducible refine Below.setCell ?_ ?_ _ | with_reducible refine Below.drew ?_ | omega | (simp; omega) | (simp; done))), ?_, ⟨?_, ?_⟩, ⟨?_, ?_, ?_, ?_, ?_, ?_, ?_, ?_⟩⟩
    all_goals go_simp
  rintro W ⟨hbw, hsz, b2, b8⟩
  have hbs := hbw.size
  have hfW := hf0.mono hbw hbs
  have hmW := hm0.mono hbw hbs
  have htW := hts0.next hbw
  obtain ⟨f1, f2⟩ := b2
  obtain ⟨m0, m1, m2, m3, m4, m5, m6, m7⟩ := b8
  cases ph
  ·
    refine wp_region_held_drew (S := fun w' => (w'.cell? ⟨w.heap.size, 0, none⟩ = some vc ∧ w'.cell? ⟨w.heap.size, 1, none⟩ = some vme) ∧ w'.cell? ⟨w.heap.size + 1, 0, none⟩ = some (.slice pa m.params.length pcap) ∧ w'.cell? ⟨w.heap.size + 1, 1, none⟩ = some (.int .i64 m.ret.kind) ∧ w'.cell? ⟨w.heap.size + 1, 2, none⟩ = some (.int .i64 m.ret.cls) ∧ w'.cell? ⟨w.heap.size + 1, 3, none⟩ = some (.int .i64 m.stack) ∧ w'.cell? ⟨w.heap.size + 1, 4, none⟩ = some (.int .i64 m.locals) ∧ w'.cell? ⟨w.heap.size + 1, 5, none⟩ = some (.int .i64 m.regs) ∧ w'.cell? ⟨w.heap.size + 1, 6, none⟩ = some (.slice da m.code.length dcap) ∧ w'.cell? ⟨w.heap.size + 1, 7, none⟩ = some (vh)) (by kernel_rfl) (by (try dsimp only); first | exact ⟨⟨f1, f2⟩, m0, m1, m2, m3, m4, m5, m6, m7⟩ | go_keep) (fun hHeld => ?_)
    refine Drawn.tk 0 (some 10) rfl rfl (by assumption) ?_
    try simp only [Act.put, List.setIfInBounds_toArray, List.set_cons_zero, List.set_cons_succ]
    refine Drawn.tk 1 (some 11) rfl rfl (by assumption) ?_
    try simp only [Act.put, List.setIfInBounds_toArray, List.set_cons_zero, List.set_cons_succ]
    refine wpAnyH_ready (rs := [2]) (by kernel_rfl) (by simp) ?_
    refine AllReadyH.cons rfl (fun K hK => ?_) AllReadyH.nil
    go_simp
    go_at_call 111
    refine (headV f m 400 _ _ _ _ hph.out (hfW.mono (by repeat' (first | with_reducible exact Below.refl _ _ | with_reducible assumption | exact Nat.le_refl _ | with_reducible refine Go.Proofs.Ytncmhenfgbcihab.Rd.below_drewN ?_ _ | with_reducible refine Below.alloc ?_ ?_ _ | with_reducible refine Below.setCell ?_ ?_ _ | with_reducible refine Below.drew ?_ | omega | (simp; omega) | (simp; done))) (by simp)) (hmW.mono (by repeat' (first | with_reducible exact Below.refl _ _ | with_reducible assumption | exact Nat.le_refl _ | with_reducible refine Go.Proofs.Ytncmhenfgbcihab.Rd.below_drewN ?_ _ | with_reducible refine Below.alloc ?_ ?_ _ | with_reducible refine Below.setCell ?_ ?_ _ | with_reducible refine Below.drew ?_ | omega | (simp; omega) | (simp; done))) (by simp)) (by omega)).mono ?_
    rintro e w2 ⟨rfl, hb2⟩
    have hbW : Below W.heap.size W w2 := Below.trans (by repeat' (first | with_reducible exact Below.refl _ _ | with_reducible assumption | exact Nat.le_refl _ | with_reducible refine Go.Proofs.Ytncmhenfgbcihab.Rd.below_drewN ?_ _ | with_reducible refine Below.alloc ?_ ?_ _ | with_reducible refine Below.setCell ?_ ?_ _ | with_reducible refine Below.drew ?_ | omega | (simp; omega) | (simp; done))) (hb2.mono (by simp))
    have k2 := B2.next ⟨f1, f2⟩ hbW (by omega)
    have k8 := B8.next ⟨m0, m1, m2, m3, m4, m5, m6, m7⟩ hbW (by omega)
    go_wp2_with fail
    refine hK.out _ _ (by (try dsimp only); exact ⟨k2, k8⟩) (fun hHeld => ?_)
    clear hK K
    try simp only [Act.put, List.setIfInBounds_toArray, List.set_cons_zero, List.set_cons_succ]
    refine Drawn.tk 3 (some 13) rfl rfl (by assumption) ?_
    try simp only [Act.put, List.setIfInBounds_toArray, List.set_cons_zero, List.set_cons_succ]
    refine Drawn.tk 4 (some 14) rfl rfl (by assumption) ?_
    try simp only [Act.put, List.setIfInBounds_toArray, List.set_cons_zero, List.set_cons_succ]
    refine Drawn.ps 5 (some 15) rfl rfl (by assumption) ?_
    try simp only [Act.put, List.setIfInBounds_toArray, List.set_cons_zero, List.set_cons_succ]
    refine Drawn.ps 6 (some 16) rfl rfl (by assumption) ?_
    try simp only [Act.put, List.setIfInBounds_toArray, List.set_cons_zero, List.set_cons_succ]
    refine Drawn.ps 7 (some 17) rfl rfl (by assumption) ?_
    try simp only [Act.put, List.setIfInBounds_toArray, List.set_cons_zero, List.set_cons_succ]
    refine Drawn.tk 8 (some 18) rfl rfl (by assumption) ?_
    try simp only [Act.put, List.setIfInBounds_toArray, List.set_cons_zero, List.set_cons_succ]
    refine Drawn.tk 9 (some 19) rfl rfl (by assumption) ?_
    try simp only [Act.put, List.setIfInBounds_toArray, List.set_cons_zero, List.set_cons_succ]
    refine Drawn.ps 10 (some 20) rfl rfl (by assumption) ?_
    try simp only [Act.put, List.setIfInBounds_toArray, List.set_cons_zero, List.set_cons_succ]
    refine Drawn.ps 11 (some 21) rfl rfl (by assumption) ?_
    try simp only [Act.put, List.setIfInBounds_toArray, List.set_cons_zero, List.set_cons_succ]
    refine Drawn.ps 12 (some 22) rfl rfl (by assumption) ?_
    try simp only [Act.put, List.setIfInBounds_toArray, List.set_cons_zero, List.set_cons_succ]
    refine Drawn.ps 13 (some 23) rfl rfl (by assumption) ?_
    try simp only [Act.put, List.setIfInBounds_toArray, List.set_cons_zero, List.set_cons_succ]
    refine Drawn.tk 14 (some 24) rfl rfl (by assumption) ?_
    try simp only [Act.put, List.setIfInBounds_toArray, List.set_cons_zero, List.set_cons_succ]
    refine Drawn.tk 15 (some 25) rfl rfl (by assumption) ?_
    try simp only [Act.put, List.setIfInBounds_toArray, List.set_cons_zero, List.set_cons_succ]
    refine Drawn.ps 16 (some 26) rfl rfl (by assumption) ?_
    try simp only [Act.put, List.setIfInBounds_toArray, List.set_cons_zero, List.set_cons_succ]
    refine Drawn.ps 17 (some 27) rfl rfl (by assumption) ?_
    try simp only [Act.put, List.setIfInBounds_toArray, List.set_cons_zero, List.set_cons_succ]
    refine Drawn.ps 18 (some 28) rfl rfl (by assumption) ?_
    try simp only [Act.put, List.setIfInBounds_toArray, List.set_cons_zero, List.set_cons_succ]
    refine Drawn.ps 19 (some 29) rfl rfl (by assumption) ?_
    try simp only [Act.put, List.setIfInBounds_toArray, List.set_cons_zero, List.set_cons_succ]
    refine Drawn.ps 20 (some 30) rfl rfl (by assumption) ?_
    try simp only [Act.put, List.setIfInBounds_toArray, List.set_cons_zero, List.set_cons_succ]
    refine Drawn.ps 21 (some 31) rfl rfl (by assumption) ?_
    try simp only [Act.put, List.setIfInBounds_toArray, List.set_cons_zero, List.set_cons_succ]
    refine Drawn.ps 22 (some 32) rfl rfl (by assumption) ?_
    try simp only [Act.put, List.setIfInBounds_toArray, List.set_cons_zero, List.set_cons_succ]
    refine Drawn.tk 23 (some 33) rfl rfl (by assumption) ?_
    try simp only [Act.put, List.setIfInBounds_toArray, List.set_cons_zero, List.set_cons_succ]
    refine wpAnyH_done (by kernel_rfl) ?_ _
    go_wp2
    go_ret
    exact ⟨ret_bool (by rw [hsme.out]; rfl), hbw.trans (hbW.mono hbs)⟩
  · have hreg : (m.regs != 0) = true ∨ (m.regs != 0) = false := by cases (m.regs != 0) <;> simp
    rcases hreg with hreg | hreg
    ·
      have hz : decide (m.regs = 0) = false := by simpa using hreg
      refine wp_region_held_drew (S := fun w' => (w'.cell? ⟨w.heap.size, 0, none⟩ = some vc ∧ w'.cell? ⟨w.heap.size, 1, none⟩ = some vme) ∧ w'.cell? ⟨w.heap.size + 1, 0, none⟩ = some (.slice pa m.params.length pcap) ∧ w'.cell? ⟨w.heap.size + 1, 1, none⟩ = some (.int .i64 m.ret.kind) ∧ w'.cell? ⟨w.heap.size + 1, 2, none⟩ = some (.int .i64 m.ret.cls) ∧ w'.cell? ⟨w.heap.size + 1, 3, none⟩ = some (.int .i64 m.stack) ∧ w'.cell? ⟨w.heap.size + 1, 4, none⟩ = some (.int .i64 m.locals) ∧ w'.cell? ⟨w.heap.size + 1, 5, none⟩ = some (.int .i64 m.regs) ∧ w'.cell? ⟨w.heap.size + 1, 6, none⟩ = some (.slice da m.code.length dcap) ∧ w'.cell? ⟨w.heap.size + 1, 7, none⟩ = some (vh)) (by kernel_rfl) (by (try dsimp only); first | exact ⟨⟨f1, f2⟩, m0, m1, m2, m3, m4, m5, m6, m7⟩ | go_keep) (fun hHeld => ?_)
      refine Drawn.tk 0 (some 10) rfl rfl (by assumption) ?_
      try simp only [Act.put, List.setIfInBounds_toArray, List.set_cons_zero, List.set_cons_succ]
      refine Drawn.tk 1 (some 11) rfl rfl (by assumption) ?_
      try simp only [Act.put, List.setIfInBounds_toArray, List.set_cons_zero, List.set_cons_succ]
      refine wpAnyH_ready (rs := [2]) (by kernel_rfl) (by simp) ?_
      refine AllReadyH.cons rfl (fun K hK => ?_) AllReadyH.nil
      go_simp
      go_at_call 111
      refine (headV f m 400 _ _ _ _ hph.out (hfW.mono (by repeat' (first | with_reducible exact Below.refl _ _ | with_reducible assumption | exact Nat.le_refl _ | with_reducible refine Go.Proofs.Ytncmhenfgbcihab.Rd.below_drewN ?_ _ | with_reducible refine Below.alloc ?_ ?_ _ | with_reducible refine Below.setCell ?_ ?_ _ | with_reducible refine Below.drew ?_ | omega | (simp; omega) | (simp; done))) (by simp)) (hmW.mono (by repeat' (first | with_reducible exact Below.refl _ _ | with_reducible assumption | exact Nat.le_refl _ | with_reducible refine Go.Proofs.Ytncmhenfgbcihab.Rd.below_drewN ?_ _ | with_reducible refine Below.alloc ?_ ?_ _ | with_reducible refine Below.setCell ?_ ?_ _ | with_reducible refine Below.drew ?_ | omega | (simp; omega) | (simp; done))) (by simp)) (by omega)).mono ?_
      rintro e w2 ⟨rfl, hb2⟩
      have hbW : Below W.heap.size W w2 := Below.trans (by repeat' (first | with_reducible exact Below.refl _ _ | with_reducible assumption | exact Nat.le_refl _ | with_reducible refine Go.Proofs.Ytncmhenfgbcihab.Rd.below_drewN ?_ _ | with_reducible refine Below.alloc ?_ ?_ _ | with_reducible refine Below.setCell ?_ ?_ _ | with_reducible refine Below.drew ?_ | omega | (simp; omega) | (simp; done))) (hb2.mono (by simp))
      have k2 := B2.next ⟨f1, f2⟩ hbW (by omega)
      have k8 := B8.next ⟨m0, m1, m2, m3, m4, m5, m6, m7⟩ hbW (by omega)
      go_wp2_with fail
      refine hK.out _ _ (by (try dsimp only); exact ⟨k2, k8⟩) (fun hHeld => ?_)
      clear hK K
      try simp only [Act.put, List.setIfInBounds_toArray, List.set_cons_zero, List.set_cons_succ]
      refine Drawn.tk 3 (some 13) rfl rfl (by assumption) ?_
      try simp only [Act.put, List.setIfInBounds_toArray, List.set_cons_zero, List.set_cons_succ]
      refine Drawn.tk 4 (some 14) rfl rfl (by assumption) ?_
      try simp only [Act.put, List.setIfInBounds_toArray, List.set_cons_zero, List.set_cons_succ]
      refine Drawn.tk 5 (some 15) rfl rfl (by assumption) ?_
      try simp only [Act.put, List.setIfInBounds_toArray, List.set_cons_zero, List.set_cons_succ]
      refine Drawn.tk 6 (some 16) rfl rfl (by assumption) ?_
      try simp only [Act.put, List.setIfInBounds_toArray, List.set_cons_zero, List.set_cons_succ]
      refine Drawn.tk 7 (some 17) rfl rfl (by assumption) ?_
      try simp only [Act.put, List.setIfInBounds_toArray, List.set_cons_zero, List.set_cons_succ]
      refine Drawn.tk 8 (some 18) rfl rfl (by assumption) ?_
      try simp only [Act.put, List.setIfInBounds_toArray, List.set_cons_zero, List.set_cons_succ]
      refine Drawn.tk 9 (some 19) rfl rfl (by assumption) ?_
      try simp only [Act.put, List.setIfInBounds_toArray, List.set_cons_zero, List.set_cons_succ]
      refine Drawn.ps 10 (some 20) rfl rfl (by assumption) ?_
      try simp only [Act.put, List.setIfInBounds_toArray, List.set_cons_zero, List.set_cons_succ]
      refine Drawn.ps 11 (some 21) rfl rfl (by assumption) ?_
      try simp only [Act.put, List.setIfInBounds_toArray, List.set_cons_zero, List.set_cons_succ]
      refine Drawn.ps 12 (some 22) rfl rfl (by assumption) ?_
      try simp only [Act.put, List.setIfInBounds_toArray, List.set_cons_zero, List.set_cons_succ]
      refine Drawn.ps 13 (some 23) rfl rfl (by assumption) ?_
      try simp only [Act.put, List.setIfInBounds_toArray, List.set_cons_zero, List.set_cons_succ]
      refine Drawn.tk 14 (some 24) rfl rfl (by assumption) ?_
      try simp only [Act.put, List.setIfInBounds_toArray, List.set_cons_zero, List.set_cons_succ]
      refine Drawn.tk 15 (some 25) rfl rfl (by assumption) ?_
      try simp only [Act.put, List.setIfInBounds_toArray, List.set_cons_zero, List.set_cons_succ]
      refine Drawn.ps 16 (some 26) rfl rfl (by assumption) ?_
      try simp only [Act.put, List.setIfInBounds_toArray, List.set_cons_zero, List.set_cons_succ]
      refine Drawn.ps 17 (some 27) rfl rfl (by assumption) ?_
      try simp only [Act.put, List.setIfInBounds_toArray, List.set_cons_zero, List.set_cons_succ]
      refine Drawn.ps 18 (some 28) rfl rfl (by assumption) ?_
      try simp only [Act.put, List.setIfInBounds_toArray, List.set_cons_zero, List.set_cons_succ]
      refine Drawn.ps 19 (some 29) rfl rfl (by assumption) ?_
      try simp only [Act.put, List.setIfInBounds_toArray, List.set_cons_zero, List.set_cons_succ]
      refine Drawn.ps 20 (some 30) rfl rfl (by assumption) ?_
      try simp only [Act.put, List.setIfInBounds_toArray, List.set_cons_zero, List.set_cons_succ]
      refine Drawn.ps 21 (some 31) rfl rfl (by assumption) ?_
      try simp only [Act.put, List.setIfInBounds_toArray, List.set_cons_zero, List.set_cons_succ]
      refine Drawn.ps 22 (some 32) rfl rfl (by assumption) ?_
      try simp only [Act.put, List.setIfInBounds_toArray, List.set_cons_zero, List.set_cons_succ]
      refine Drawn.tk 23 (some 33) rfl rfl (by assumption) ?_
      try simp only [Act.put, List.setIfInBounds_toArray, List.set_cons_zero, List.set_cons_succ]
      refine wpAnyH_done (by kernel_rfl) ?_ _
      go_wp2
      go_ret
      exact ⟨ret_bool (by rw [hsme.out]; rw [hz]; rfl), hbw.trans (hbW.mono hbs)⟩
    · have hz : decide (m.regs = 0) = true := by simpa using hreg
      cases pst
      ·
        refine wp_region_held_drew (S := fun w' => (w'.cell? ⟨w.heap.size, 0, none⟩ = some vc ∧ w'.cell? ⟨w.heap.size, 1, none⟩ = some vme) ∧ w'.cell? ⟨w.heap.size + 1, 0, none⟩ = some (.slice pa m.params.length pcap) ∧ w'.cell? ⟨w.heap.size + 1, 1, none⟩ = some (.int .i64 m.ret.kind) ∧ w'.cell? ⟨w.heap.size + 1, 2, none⟩ = some (.int .i64 m.ret.cls) ∧ w'.cell? ⟨w.heap.size + 1, 3, none⟩ = some (.int .i64 m.stack) ∧ w'.cell? ⟨w.heap.size + 1, 4, none⟩ = some (.int .i64 m.locals) ∧ w'.cell? ⟨w.heap.size + 1, 5, none⟩ = some (.int .i64 m.regs) ∧ w'.cell? ⟨w.heap.size + 1, 6, none⟩ = some (.slice da m.code.length dcap) ∧ w'.cell? ⟨w.heap.size + 1, 7, none⟩ = some (vh)) (by kernel_rfl) (by (try dsimp only); first | exact ⟨⟨f1, f2⟩, m0, m1, m2, m3, m4, m5, m6, m7⟩ | go_keep) (fun hHeld => ?_)
        refine Drawn.tk 0 (some 10) rfl rfl (by assumption) ?_
        try simp only [Act.put, List.setIfInBounds_toArray, List.set_cons_zero, List.set_cons_succ]
        refine Drawn.tk 1 (some 11) rfl rfl (by assumption) ?_
        try simp only [Act.put, List.setIfInBounds_toArray, List.set_cons_zero, List.set_cons_succ]
        refine wpAnyH_ready (rs := [2]) (by kernel_rfl) (by simp) ?_
        refine AllReadyH.cons rfl (fun K hK => ?_) AllReadyH.nil
        go_simp
        go_at_call 111
        refine (headV f m 400 _ _ _ _ hph.out (hfW.mono (by repeat' (first | with_reducible exact Below.refl _ _ | with_reducible assumption | exact Nat.le_refl _ | with_reducible refine Go.Proofs.Ytncmhenfgbcihab.Rd.below_drewN ?_ _ | with_reducible refine Below.alloc ?_ ?_ _ | with_reducible refine Below.setCell ?_ ?_ _ | with_reducible refine Below.drew ?_ | omega | (simp; omega) | (simp; done))) (by simp)) (hmW.mono (by repeat' (first | with_reducible exact Below.refl _ _ | with_reducible assumption | exact Nat.le_refl _ | with_reducible refine Go.Proofs.Ytncmhenfgbcihab.Rd.below_drewN ?_ _ | with_reducible refine Below.alloc ?_ ?_ _ | with_reducible refine Below.setCell ?_ ?_ _ | with_reducible refine Below.drew ?_ | omega | (simp; omega) | (simp; done))) (by simp)) (by omega)).mono ?_
        rintro e w2 ⟨rfl, hb2⟩
        have hbW : Below W.heap.size W w2 := Below.trans (by repeat' (first | with_reducible exact Below.refl _ _ | with_reducible assumption | exact Nat.le_refl _ | with_reducible refine Go.Proofs.Ytncmhenfgbcihab.Rd.below_drewN ?_ _ | with_reducible refine Below.alloc ?_ ?_ _ | with_reducible refine Below.setCell ?_ ?_ _ | with_reducible refine Below.drew ?_ | omega | (simp; omega) | (simp; done))) (hb2.mono (by simp))
        have k2 := B2.next ⟨f1, f2⟩ hbW (by omega)
        have k8 := B8.next ⟨m0, m1, m2, m3, m4, m5, m6, m7⟩ hbW (by omega)
        go_wp2_with fail
        refine hK.out _ _ (by (try dsimp only); exact ⟨k2, k8⟩) (fun hHeld => ?_)
        clear hK K
        try simp only [Act.put, List.setIfInBounds_toArray, List.set_cons_zero, List.set_cons_succ]
        refine Drawn.tk 3 (some 13) rfl rfl (by assumption) ?_
        try simp only [Act.put, List.setIfInBounds_toArray, List.set_cons_zero, List.set_cons_succ]
        refine Drawn.tk 4 (some 14) rfl rfl (by assumption) ?_
        try simp only [Act.put, List.setIfInBounds_toArray, List.set_cons_zero, List.set_cons_succ]
        refine Drawn.tk 5 (some 15) rfl rfl (by assumption) ?_
        try simp only [Act.put, List.setIfInBounds_toArray, List.set_cons_zero, List.set_cons_succ]
        refine Drawn.tk 6 (some 16) rfl rfl (by assumption) ?_
        try simp only [Act.put, List.setIfInBounds_toArray, List.set_cons_zero, List.set_cons_succ]
        refine Drawn.tk 7 (some 17) rfl rfl (by assumption) ?_
        try simp only [Act.put, List.setIfInBounds_toArray, List.set_cons_zero, List.set_cons_succ]
        refine Drawn.tk 8 (some 18) rfl rfl (by assumption) ?_
        try simp only [Act.put, List.setIfInBounds_toArray, List.set_cons_zero, List.set_cons_succ]
        refine Drawn.tk 9 (some 19) rfl rfl (by assumption) ?_
        try simp only [Act.put, List.setIfInBounds_toArray, List.set_cons_zero, List.set_cons_succ]
        refine Drawn.tk 10 (some 20) rfl rfl (by assumption) ?_
        try simp only [Act.put, List.setIfInBounds_toArray, List.set_cons_zero, List.set_cons_succ]
        refine Drawn.tk 11 (some 21) rfl rfl (by assumption) ?_
        try simp only [Act.put, List.setIfInBounds_toArray, List.set_cons_zero, List.set_cons_succ]
        refine wpAnyH_ready (rs := [12]) (by kernel_rfl) (by simp) ?_
        refine AllReadyH.cons rfl (fun K hK => ?_) AllReadyH.nil
        go_simp
        go_at_call 89
        refine (sinV _ _ _ _ _ hps.out).mono ?_
        rintro e w3 ⟨rfl, rfl⟩
        go_wp2_with fail
        refine hK.out _ _ (by (try dsimp only); exact ⟨k2, k8⟩) (fun hHeld => ?_)
        clear hK K
        try simp only [Act.put, List.setIfInBounds_toArray, List.set_cons_zero, List.set_cons_succ]
        refine Drawn.tk 13 (some 23) rfl rfl (by assumption) ?_
        try simp only [Act.put, List.setIfInBounds_toArray, List.set_cons_zero, List.set_cons_succ]
        refine Drawn.tk 14 (some 24) rfl rfl (by assumption) ?_
        try simp only [Act.put, List.setIfInBounds_toArray, List.set_cons_zero, List.set_cons_succ]
        refine Drawn.tk 15 (some 25) rfl rfl (by assumption) ?_
        try simp only [Act.put, List.setIfInBounds_toArray, List.set_cons_zero, List.set_cons_succ]
        refine Drawn.ps 16 (some 26) rfl rfl (by assumption) ?_
        try simp only [Act.put, List.setIfInBounds_toArray, List.set_cons_zero, List.set_cons_succ]
        refine Drawn.ps 17 (some 27) rfl rfl (by assumption) ?_
        try simp only [Act.put, List.setIfInBounds_toArray, List.set_cons_zero, List.set_cons_succ]
        refine Drawn.ps 18 (some 28) rfl rfl (by assumption) ?_
        try simp only [Act.put, List.setIfInBounds_toArray, List.set_cons_zero, List.set_cons_succ]
        refine Drawn.ps 19 (some 29) rfl rfl (by assumption) ?_
        try simp only [Act.put, List.setIfInBounds_toArray, List.set_cons_zero, List.set_cons_succ]
        refine Drawn.ps 20 (some 30) rfl rfl (by assumption) ?_
        try simp only [Act.put, List.setIfInBounds_toArray, List.set_cons_zero, List.set_cons_succ]
        refine Drawn.ps 21 (some 31) rfl rfl (by assumption) ?_
        try simp only [Act.put, List.setIfInBounds_toArray, List.set_cons_zero, List.set_cons_succ]
        refine Drawn.ps 22 (some 32) rfl rfl (by assumption) ?_
        try simp only [Act.put, List.setIfInBounds_toArray, List.set_cons_zero, List.set_cons_succ]
        refine Drawn.tk 23 (some 33) rfl rfl (by assumption) ?_
        try simp only [Act.put, List.setIfInBounds_toArray, List.set_cons_zero, List.set_cons_succ]
        refine wpAnyH_done (by kernel_rfl) ?_ _
        go_wp2
        go_ret
        exact ⟨ret_bool (by rw [hsme.out]; simp), hbw.trans (hbW.mono hbs)⟩
      ·
        have hp4 : m.params.length ≤ 4 := by
          have h := hph.out
          simp only [Form.head, Bool.and_eq_true, decide_eq_true_eq] at h
          exact h.1.1.1.2
        refine wp_region_held_drew (S := fun w' => (w'.cell? ⟨w.heap.size, 0, none⟩ = some vc ∧ w'.cell? ⟨w.heap.size, 1, none⟩ = some vme) ∧ w'.cell? ⟨w.heap.size + 1, 0, none⟩ = some (.slice pa m.params.length pcap) ∧ w'.cell? ⟨w.heap.size + 1, 1, none⟩ = some (.int .i64 m.ret.kind) ∧ w'.cell? ⟨w.heap.size + 1, 2, none⟩ = some (.int .i64 m.ret.cls) ∧ w'.cell? ⟨w.heap.size + 1, 3, none⟩ = some (.int .i64 m.stack) ∧ w'.cell? ⟨w.heap.size + 1, 4, none⟩ = some (.int .i64 m.locals) ∧ w'.cell? ⟨w.heap.size + 1, 5, none⟩ = some (.int .i64 m.regs) ∧ w'.cell? ⟨w.heap.size + 1, 6, none⟩ = some (.slice da m.code.length dcap) ∧ w'.cell? ⟨w.heap.size + 1, 7, none⟩ = some (vh)) (by kernel_rfl) (by (try dsimp only); first | exact ⟨⟨f1, f2⟩, m0, m1, m2, m3, m4, m5, m6, m7⟩ | go_keep) (fun hHeld => ?_)
        refine Drawn.tk 0 (some 10) rfl rfl (by assumption) ?_
        try simp only [Act.put, List.setIfInBounds_toArray, List.set_cons_zero, List.set_cons_succ]
        refine Drawn.tk 1 (some 11) rfl rfl (by assumption) ?_
        try simp only [Act.put, List.setIfInBounds_toArray, List.set_cons_zero, List.set_cons_succ]
        refine wpAnyH_ready (rs := [2]) (by kernel_rfl) (by simp) ?_
        refine AllReadyH.cons rfl (fun K hK => ?_) AllReadyH.nil
        go_simp
        go_at_call 111
        refine (headV f m 400 _ _ _ _ hph.out (hfW.mono (by repeat' (first | with_reducible exact Below.refl _ _ | with_reducible assumption | exact Nat.le_refl _ | with_reducible refine Go.Proofs.Ytncmhenfgbcihab.Rd.below_drewN ?_ _ | with_reducible refine Below.alloc ?_ ?_ _ | with_reducible refine Below.setCell ?_ ?_ _ | with_reducible refine Below.drew ?_ | omega | (simp; omega) | (simp; done))) (by simp)) (hmW.mono (by repeat' (first | with_reducible exact Below.refl _ _ | with_reducible assumption | exact Nat.le_refl _ | with_reducible refine Go.Proofs.Ytncmhenfgbcihab.Rd.below_drewN ?_ _ | with_reducible refine Below.alloc ?_ ?_ _ | with_reducible refine Below.setCell ?_ ?_ _ | with_reducible refine Below.drew ?_ | omega | (simp; omega) | (simp; done))) (by simp)) (by omega)).mono ?_
        rintro e w2 ⟨rfl, hb2⟩
        have hbW : Below W.heap.size W w2 := Below.trans (by repeat' (first | with_reducible exact Below.refl _ _ | with_reducible assumption | exact Nat.le_refl _ | with_reducible refine Go.Proofs.Ytncmhenfgbcihab.Rd.below_drewN ?_ _ | with_reducible refine Below.alloc ?_ ?_ _ | with_reducible refine Below.setCell ?_ ?_ _ | with_reducible refine Below.drew ?_ | omega | (simp; omega) | (simp; done))) (hb2.mono (by simp))
        have k2 := B2.next ⟨f1, f2⟩ hbW (by omega)
        have k8 := B8.next ⟨m0, m1, m2, m3, m4, m5, m6, m7⟩ hbW (by omega)
        go_wp2_with fail
        refine hK.out _ _ (by (try dsimp only); exact ⟨k2, k8⟩) (fun hHeld => ?_)
        clear hK K
        try simp only [Act.put, List.setIfInBounds_toArray, List.set_cons_zero, List.set_cons_succ]
        refine Drawn.tk 3 (some 13) rfl rfl (by assumption) ?_
        try simp only [Act.put, List.setIfInBounds_toArray, List.set_cons_zero, List.set_cons_succ]
        refine Drawn.tk 4 (some 14) rfl rfl (by assumption) ?_
        try simp only [Act.put, List.setIfInBounds_toArray, List.set_cons_zero, List.set_cons_succ]
        refine Drawn.tk 5 (some 15) rfl rfl (by assumption) ?_
        try simp only [Act.put, List.setIfInBounds_toArray, List.set_cons_zero, List.set_cons_succ]
        refine Drawn.tk 6 (some 16) rfl rfl (by assumption) ?_
        try simp only [Act.put, List.setIfInBounds_toArray, List.set_cons_zero, List.set_cons_succ]
        refine Drawn.tk 7 (some 17) rfl rfl (by assumption) ?_
        try simp only [Act.put, List.setIfInBounds_toArray, List.set_cons_zero, List.set_cons_succ]
        refine Drawn.tk 8 (some 18) rfl rfl (by assumption) ?_
        try simp only [Act.put, List.setIfInBounds_toArray, List.set_cons_zero, List.set_cons_succ]
        refine Drawn.tk 9 (some 19) rfl rfl (by assumption) ?_
        try simp only [Act.put, List.setIfInBounds_toArray, List.set_cons_zero, List.set_cons_succ]
        refine Drawn.tk 10 (some 20) rfl rfl (by assumption) ?_
        try simp only [Act.put, List.setIfInBounds_toArray, List.set_cons_zero, List.set_cons_succ]
        refine Drawn.tk 11 (some 21) rfl rfl (by assumption) ?_
        try simp only [Act.put, List.setIfInBounds_toArray, List.set_cons_zero, List.set_cons_succ]
        refine wpAnyH_ready (rs := [12]) (by kernel_rfl) (by simp) ?_
        refine AllReadyH.cons rfl (fun K hK => ?_) AllReadyH.nil
        go_simp
        go_at_call 89
        refine (sinV _ _ _ _ _ hps.out).mono ?_
        rintro e w3 ⟨rfl, rfl⟩
        go_wp2_with fail
        refine hK.out _ _ (by (try dsimp only); exact ⟨k2, k8⟩) (fun hHeld => ?_)
        clear hK K
        try simp only [Act.put, List.setIfInBounds_toArray, List.set_cons_zero, List.set_cons_succ]
        refine Drawn.tk 13 (some 23) rfl rfl (by assumption) ?_
        try simp only [Act.put, List.setIfInBounds_toArray, List.set_cons_zero, List.set_cons_succ]
        refine Drawn.tk 14 (some 24) rfl rfl (by assumption) ?_
        try simp only [Act.put, List.setIfInBounds_toArray, List.set_cons_zero, List.set_cons_succ]
        refine Drawn.tk 15 (some 25) rfl rfl (by assumption) ?_
        try simp only [Act.put, List.setIfInBounds_toArray, List.set_cons_zero, List.set_cons_succ]
        refine Drawn.tk 16 (some 26) rfl rfl (by assumption) ?_
        try simp only [Act.put, List.setIfInBounds_toArray, List.set_cons_zero, List.set_cons_succ]
        refine Drawn.tk 17 (some 27) rfl rfl (by assumption) ?_
        try simp only [Act.put, List.setIfInBounds_toArray, List.set_cons_zero, List.set_cons_succ]
        refine Drawn.tk 18 (some 28) rfl rfl (by assumption) ?_
        try simp only [Act.put, List.setIfInBounds_toArray, List.set_cons_zero, List.set_cons_succ]
        refine Drawn.tk 19 (some 29) rfl rfl (by assumption) ?_
        try simp only [Act.put, List.setIfInBounds_toArray, List.set_cons_zero, List.set_cons_succ]
        refine wpAnyH_ready (rs := [20]) (by kernel_rfl) (by simp) ?_
        refine AllReadyH.cons rfl (fun K hK => ?_) AllReadyH.nil
        go_simp
        go_at_call 92
        refine (slotsV _ m.params S _ (htW.next hbW) (by omega) hS.out).mono ?_
        rintro e w4 ⟨rfl, hb4⟩
        have hbX : Below W.heap.size W w4 := hbW.trans (hb4.mono hbW.size)
        have x2 := B2.next ⟨f1, f2⟩ hbX (by omega)
        have x8 := B8.next ⟨m0, m1, m2, m3, m4, m5, m6, m7⟩ hbX (by omega)
        go_wp2_with fail
        refine hK.out _ _ (by (try dsimp only); exact ⟨x2, x8⟩) (fun hHeld => ?_)
        clear hK K
        try simp only [Act.put, List.setIfInBounds_toArray, List.set_cons_zero, List.set_cons_succ]
        refine wpAnyH_ready (rs := [21]) (by kernel_rfl) (by simp) ?_
        refine AllReadyH.cons rfl (fun K hK => ?_) AllReadyH.nil
        go_simp
        go_at_call 89
        refine (sinV _ _ _ _ _ hpl.out).mono ?_
        rintro e w5 ⟨rfl, rfl⟩
        go_wp2_with fail
        refine hK.out _ _ (by (try dsimp only); exact ⟨x2, x8⟩) (fun hHeld => ?_)
        clear hK K
        try simp only [Act.put, List.setIfInBounds_toArray, List.set_cons_zero, List.set_cons_succ]
        refine Drawn.tk 22 (some 32) rfl rfl (by assumption) ?_
        try simp only [Act.put, List.setIfInBounds_toArray, List.set_cons_zero, List.set_cons_succ]
        refine Drawn.tk 23 (some 33) rfl rfl (by assumption) ?_
        try simp only [Act.put, List.setIfInBounds_toArray, List.set_cons_zero, List.set_cons_succ]
        refine wpAnyH_done (by kernel_rfl) ?_ _
        have hbX2 : Below w.heap.size w w4 := hbw.trans (hbX.mono hbs)
        have hbX3 := hbX2.size
        have hbX4 := hbX.size
        cases pl
        · go_wp2
          go_ret
          exact ⟨ret_bool (by rw [hsme.out]; simp), hbX2⟩
        · have hloc : 0 ≤ m.locals ∧ m.locals ≤ 60 := by
            have h := hpl.out
            simp only [Form.rng, decide_eq_true_eq] at h
            omega
          have hsme2 : Hid (Form.sme f m = m.code.all (Form.sins f.classes f.methods.length m.code.length m.locals)) := by
            show _ = _
            rw [hsme.out, hz]; rfl
          clear hsme f1 f2 m0 m1 m2 m3 m4 m5 m6 m7 k2 k8 htW hfW hmW hts0
          obtain ⟨f1, f2⟩ := x2
          obtain ⟨m0, m1, m2, m3, m4, m5, m6, m7⟩ := x8
          go_wp2_with fail
          go_loopw [37] (fun i wr => ∃ k : Nat, k ≤ m.code.length ∧ i = .int .i64 k ∧ Below w4.heap.size w4 wr ∧ Hid (∀ j (h : j < m.code.length), j < k → Form.sins f.classes f.methods.length m.code.length m.locals m.code[j] = true)) (fun i _ => m.code.length - (intOf i).toNat)
          case atStart => exact ⟨0, by omega, rfl, (by repeat' (first | with_reducible exact Below.refl _ _ | with_reducible assumption | exact Nat.le_refl _ | with_reducible refine Go.Proofs.Ytncmhenfgbcihab.Rd.below_drewN ?_ _ | with_reducible refine Below.alloc ?_ ?_ _ | with_reducible refine Below.setCell ?_ ?_ _ | with_reducible refine Below.drew ?_ | omega | (simp; omega) | (simp; done))), fun j _ h => absurd h (by omega)⟩
          case round =>
            obtain ⟨k, hk, rfl, hq, hall⟩ := hrel
            have hqs := hq.size
            have hwr : Below w.heap.size w wr := hbX2.trans (hq.mono hbX3)
            have hwrs := hwr.size
            have n3 : w.heap.size < wr.heap.size := by omega
            have n4 : w.heap.size + 1 < wr.heap.size := by omega
            have c1 := kept hq (by omega) f1
            have c2 := kept hq (by omega) f2
            have c3 := kept hq (by omega) m0
            have c4 := kept hq (by omega) m1
            have c5 := kept hq (by omega) m2
            have c6 := kept hq (by omega) m3
            have c7 := kept hq (by omega) m4
            have c8 := kept hq (by omega) m5
            have c9 := kept hq (by omega) m6
            have c10 := kept hq (by omega) m7
            clear f1 f2 m0 m1 m2 m3 m4 m5 m6 m7
            by_cases hlt : k < m.code.length
            · obtain ⟨b, o, rfl, hb, he⟩ := del k hlt
              have hyes := Lib.hid (Form.all_step (p := Form.sins f.classes f.methods.length m.code.length m.locals) hall.out hlt)
              have hno := Lib.hid (Form.all_not (p := Form.sins f.classes f.methods.length m.code.length m.locals) hlt)
              obtain ⟨t, ht⟩ := at_of hlt
              rw [ht.out] at he hyes hno
              obtain ⟨g1, g2, g3, g4, g5, oks, va, g6, gargs⟩ := he
              have hvi : VIns w w.heap.size (.agg #[.int .i64 t.op, .int .i64 t.a, .int .i64 t.b, .int .i64 t.c, .int .i64 t.n, va]) t := ⟨va, rfl, oks, gargs⟩
              obtain ⟨aa, acap, rfl, alc, acc, _⟩ := gargs
              have k1 := kept hwr hb g1
              have k2 := kept hwr hb g2
              have k3 := kept hwr hb g3
              have k4 := kept hwr hb g4
              have k5 := kept hwr hb g5
              have k6 := kept hwr hb g6
              obtain ⟨xa, hxa⟩ : ∃ p, Hid (Form.sa f.classes f.methods.length m.code.length m.locals t = p) := ⟨_, rfl⟩
              obtain ⟨xb, hxb⟩ : ∃ p, Hid (Form.sb f.classes t = p) := ⟨_, rfl⟩
              obtain ⟨xn, hxn⟩ : ∃ p, Hid (Form.sn t = p) := ⟨_, rfl⟩
              have hins : Hid (Form.sins f.classes f.methods.length m.code.length m.locals t = (xa && xb && xn && decide (t.c = 0) && decide (t.args.length = 0))) := by
                show _ = _
                rw [← hxa.out, ← hxb.out, ← hxn.out]; rfl
              have hq2 := Lib.hid hq
              have hwr2 := Lib.hid hwr
              clear del g1 g2 g3 g4 g5 g6
              go_wp2_with (go_at_call 142; refine (fieldsV f m t xa xb xn _ _ _ _ hxa.out hxb.out hxn.out (hf0.mono (by repeat' (first | with_reducible exact Below.refl _ _ | with_reducible assumption | exact Nat.le_refl _ | with_reducible refine Go.Proofs.Ytncmhenfgbcihab.Rd.below_drewN ?_ _ | with_reducible refine Below.alloc ?_ ?_ _ | with_reducible refine Below.setCell ?_ ?_ _ | with_reducible refine Below.drew ?_ | omega | (simp; omega) | (simp; done))) (by simp; omega)) (hm0.mono (by repeat' (first | with_reducible exact Below.refl _ _ | with_reducible assumption | exact Nat.le_refl _ | with_reducible refine Go.Proofs.Ytncmhenfgbcihab.Rd.below_drewN ?_ _ | with_reducible refine Below.alloc ?_ ?_ _ | with_reducible refine Below.setCell ?_ ?_ _ | with_reducible refine Below.drew ?_ | omega | (simp; omega) | (simp; done))) (by simp; omega)) (hvi.mono (by repeat' (first | with_reducible exact Below.refl _ _ | with_reducible assumption | exact Nat.le_refl _ | with_reducible refine Go.Proofs.Ytncmhenfgbcihab.Rd.below_drewN ?_ _ | with_reducible refine Below.alloc ?_ ?_ _ | with_reducible refine Below.setCell ?_ ?_ _ | with_reducible refine Below.drew ?_ | omega | (simp; omega) | (simp; done))) (by simp; omega)) hloc).mono ?_; rintro e w6 ⟨rfl, hb6⟩; have hw6 : Below wr.heap.size wr w6 := Below.trans (by repeat' (first | with_reducible exact Below.refl _ _ | with_reducible assumption | exact Nat.le_refl _ | with_reducible refine Go.Proofs.Ytncmhenfgbcihab.Rd.below_drewN ?_ _ | with_reducible refine Below.alloc ?_ ?_ _ | with_reducible refine Below.setCell ?_ ?_ _ | with_reducible refine Below.drew ?_ | omega | (simp; omega) | (simp; done))) (hb6.mono (by simp)); have y4 : w6.cell? ⟨wr.heap.size, 3, none⟩ = some (.int .i64 t.c) := kept hb6 (by simp) (by go_simp); have y6 : w6.cell? ⟨wr.heap.size, 5, none⟩ = some (.slice aa t.args.length acap) := kept hb6 (by simp) (by go_simp))
              all_goals first
                | (go_ret
                   refine ⟨ret_bool (hsme2.out.trans (hno.out ?_)).symm, hwr2.out.trans (hw6.mono hwrs)⟩
                   go_tidy
                   rw [hins.out]
                   first | (simp_all; done) | (rw [show decide (t.args.length = 0) = false from decide_eq_false (by omega)]; simp; done))
                | skip
              refine ⟨?_, ?measure⟩
              iterate 39 apply Exists.intro
              refine ⟨?rel, rfl⟩
              case rel =>
                refine ⟨k + 1, by omega, by go_num, hq2.out.trans (hw6.mono hqs), hyes.out ?_⟩
                go_tidy
                rw [hins.out]
                simp_all
              case measure => simp [intOf]; omega
            · have hst : m.code.all (Form.sins f.classes f.methods.length m.code.length m.locals) = true := Form.all_of (fun j hj => hall.out j hj (by omega))
              have hst2 := Lib.hid hst
              clear hst hall del
              go_wp2
              go_ret
              exact ⟨ret_bool (by rw [hsme2.out, hst2.out]), hwr⟩
end FormW
end Go.Proofs.Ytncmhenfgbcihab
