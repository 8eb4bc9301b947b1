/- The walk through crosswalkref6.May. -/
import Derived.Test.YtncmhenfgbcihaaFormRH
import Derived.Test.YtncmhenfgbcihaaRefI
import Derived.Test.YtncmhenfgbcihaaFormM
import Derived.Test.YtncmhenfgbcihaaFormRY
namespace Go.Proofs.Ytncmhenfgbcihaa
open Go.RowKit
set_option linter.unusedSimpArgs false
set_option linter.unusedVariables false
namespace RefG
open Num Rd D HierW FormW FormR

theorem insV (f : Fi) (m : Me) (i : Ins) (p : Bool) (vf vm vi : Value) (w : World) (hp : Rform.ins f m i = p) (hf : VFi w w.heap.size vf f) (hm : VMe w w.heap.size vm m) (hi : VIns w w.heap.size vi i) (hr : 0 ≤ m.regs ∧ m.regs ≤ 90) :
    Calls Try.prog 56 #[vf, vm, vi] w fun e w' => e = .returned (.bool p) ∧ Below w.heap.size w w' := by
  subst hp; exact ins f m i vf vm vi w hf hm hi hr

theorem rme_head {f : Fi} {m : Me} (h : Form.head f.classes.length m 2400 = false) : Rform.rme f m = false := by simp [Rform.rme, h]
theorem rme_stack {f : Fi} {m : Me} (h : m.stack ≠ 0) : Rform.rme f m = false := by simp [Rform.rme, h]
theorem rme_locals {f : Fi} {m : Me} (h : m.locals ≠ 0) : Rform.rme f m = false := by simp [Rform.rme, h]
theorem rme_regs {f : Fi} {m : Me} (h : within m.regs 1 90 = false ∨ m.regs < (Form.slots m.params : Nat)) : Rform.rme f m = false := by
  have h2 : Form.rng m.regs (max 1 (Form.slots m.params : Nat)) 91 = false := by
    unfold within at h
    simp only [Form.rng, decide_eq_false_iff_not] at *
    rw [Int.max_def]
    rcases h with h | h <;> (split <;> omega)
  simp [Rform.rme, h2]
theorem rme_ins {f : Fi} {m : Me} {k : Nat} (hk : k < m.code.length) (h : Rform.ins f m m.code[k] = false) : Rform.rme f m = false := by
  simp [Rform.rme, Form.all_not hk h]
theorem rme_yes {f : Fi} {m : Me} (h1 : Form.head f.classes.length m 2400 = true) (h2 : m.stack = 0) (h3 : m.locals = 0) (h4 : within m.regs 1 90 = true) (h4' : ¬ m.regs < (Form.slots m.params : Nat))
    (h5 : ∀ j (h : j < m.code.length), Rform.ins f m m.code[j] = true) : Rform.rme f m = true := by
  have := Form.all_of h5
  have h6 : Form.rng m.regs (max 1 (Form.slots m.params : Nat)) 91 = true := by
    unfold within at h4
    simp only [Form.rng, decide_eq_true_eq] at *
    rw [Int.max_def]
    split <;> omega
  simp [Rform.rme, h1, h2, h3, h6, this]

set_option maxRecDepth 100000 in
set_option maxHeartbeats 8000000 in
theorem rmay (f : Fi) (vf : Value) (w : World) (hf : VFi w w.heap.size vf f) :
    Calls Try.prog 32 #[vf] w fun e w' => e = .returned (.bool (Rform.rmay f)) ∧ Below w.heap.size w w' := by
  have hf0 := hf
  obtain ⟨vc, vme, rfl, hcs, ⟨ma, mcap, rfl, mlc, mcc, mel⟩⟩ := hf
  obtain ⟨ph, hph⟩ : ∃ p, Hid (Hier.may f.classes = p) := ⟨_, rfl⟩
  obtain ⟨pn, hpn⟩ : ∃ p, Hid (within f.methods.length 1 8 = p) := ⟨_, rfl⟩
  have hall0 : Hid (Rform.rmay f = (ph && pn && f.methods.all (Rform.rme f))) := by
    show _ = _
    rw [← hph.out, ← hpn.out, within_rng]; rfl
  cases ph <;> cases pn
  all_goals go_enter Try.func32, Try.ntmps32
  all_goals go_wp2_with (first
    | (go_at_call 19; refine (rmayV _ _ _ _ hph.out (Cs.next hcs (by repeat' (first | with_reducible exact Below.refl _ _ | with_reducible assumption | exact Nat.le_refl _ | with_reducible refine Go.Proofs.Ytncmhenfgbcihaa.Rd.below_drewN ?_ _ | with_reducible refine Below.alloc ?_ ?_ _ | with_reducible refine Below.setCell ?_ ?_ _ | with_reducible refine Below.drew ?_ | omega | (simp; omega) | (simp; done))))).mono ?_; rintro e w1 ⟨rfl, hb1⟩; have hw1 : Below w.heap.size w w1 := Below.trans (by repeat' (first | with_reducible exact Below.refl _ _ | with_reducible assumption | exact Nat.le_refl _ | with_reducible refine Go.Proofs.Ytncmhenfgbcihaa.Rd.below_drewN ?_ _ | with_reducible refine Below.alloc ?_ ?_ _ | with_reducible refine Below.setCell ?_ ?_ _ | with_reducible refine Below.drew ?_ | omega | (simp; omega) | (simp; done))) (hb1.mono (by simp)); have y0 : w1.cell? ⟨w.heap.size, 0, none⟩ = some vc := kept hb1 (by simp) (by go_simp); have y1 : w1.cell? ⟨w.heap.size, 1, none⟩ = some (.slice ma f.methods.length mcap) := kept hb1 (by simp) (by go_simp))
    | (go_at_call 48; refine (wiV _ _ _ _ _ hpn.out).mono ?_; rintro e w2 ⟨rfl, rfl⟩))
  all_goals first
    | (go_ret
       exact ⟨ret_bool (by rw [hall0.out]; simp), hw1⟩)
    | skip
  have hws := hw1.size
  have nn : w.heap.size < w1.heap.size := by have := lt_cell y0; omega
  go_loopw [3] (fun i wr => ∃ k : Nat, k ≤ f.methods.length ∧ i = .int .i64 k ∧ Below w1.heap.size w1 wr ∧ Hid (∀ j (h : j < f.methods.length), j < k → Rform.rme f f.methods[j] = true)) (fun i _ => f.methods.length - (intOf i).toNat)
  case atStart => exact ⟨0, by omega, rfl, (by repeat' (first | with_reducible exact Below.refl _ _ | with_reducible assumption | exact Nat.le_refl _ | with_reducible refine Go.Proofs.Ytncmhenfgbcihaa.Rd.below_drewN ?_ _ | with_reducible refine Below.alloc ?_ ?_ _ | with_reducible refine Below.setCell ?_ ?_ _ | with_reducible refine Below.drew ?_ | omega | (simp; omega) | (simp; done))), fun j _ h => absurd h (by omega)⟩
  case round =>
    obtain ⟨k, hk, rfl, hq, hall⟩ := hrel
    have hqs := hq.size
    have hwr : Below w.heap.size w wr := hw1.trans (hq.mono hws)
    have hwrs := hwr.size
    have n3 : w.heap.size < wr.heap.size := by omega
    have c1 := kept hq (by omega) y0
    have c2 := kept hq (by omega) y1
    clear y0 y1
    by_cases hlt : k < f.methods.length
    · obtain ⟨b, o, rfl, hb, he⟩ := mel k hlt
      have hyes := Lib.hid (Form.all_step (p := Rform.rme f) hall.out hlt)
      have hno := Lib.hid (Form.all_not (p := Rform.rme f) hlt)
      obtain ⟨t, ht⟩ := at_of hlt
      rw [ht.out] at he hyes hno
      obtain ⟨vp, vd, vh, g0, g1, g2, g3, g4, g5, g6, g7, oks, s1, s2, s3⟩ := he
      have hvm : VMe w w.heap.size (.agg #[vp, .int .i64 t.ret.kind, .int .i64 t.ret.cls, .int .i64 t.stack, .int .i64 t.locals, .int .i64 t.regs, vd, vh]) t := ⟨vp, vd, vh, rfl, oks, s1, s2, s3⟩
      obtain ⟨pa, pcap, rfl, plc, pcc, pel⟩ := s1
      have hts0 : Ts w (.slice pa t.params.length pcap) t.params := ⟨pa, pcap, rfl, plc, pcc, pel⟩
      clear pel
      obtain ⟨da, dcap, rfl, dlc, dcc, del⟩ := s2
      obtain ⟨ha, hcap, rfl, _, _, _⟩ := s3
      have k0 := kept hwr hb g0
      have k1 := kept hwr hb g1
      have k2 := kept hwr hb g2
      have k3 := kept hwr hb g3
      have k4 := kept hwr hb g4
      have k5 := kept hwr hb g5
      have k6 := kept hwr hb g6
      have k7 := kept hwr hb g7
      have hq2 := Lib.hid hq
      have hwr2 := Lib.hid hwr
      have ok5 := oks.2.2.2.2
      have ok4 := oks.2.2.2.1
      have ok3 := oks.2.2.1
      unfold Ok at ok5 ok4 ok3
      clear g0 g1 g2 g3 g4 g5 g6 g7 oks
      go_wp2_with fail
      refine name_world (fun W => Below w.heap.size w W ∧ Below wr.heap.size wr W ∧ wr.heap.size + 1 ≤ W.heap.size ∧ B2 W w.heap.size vc (.slice (some ⟨b, o, none⟩) f.methods.length mcap) ∧ B8 W wr.heap.size (.slice pa t.params.length pcap) (.int .i64 t.ret.kind) (.int .i64 t.ret.cls) (.int .i64 t.stack) (.int .i64 t.locals) (.int .i64 t.regs) (.slice da t.code.length dcap) (.slice ha t.handlers.length hcap)) ?_ ?_
      · refine ⟨(by repeat' (first | with_reducible exact Below.refl _ _ | with_reducible assumption | exact Nat.le_refl _ | with_reducible refine Go.Proofs.Ytncmhenfgbcihaa.Rd.below_drewN ?_ _ | with_reducible refine Below.alloc ?_ ?_ _ | with_reducible refine Below.setCell ?_ ?_ _ | with_reducible refine Below.drew ?_ | omega | (simp; omega) | (simp; done))), (by repeat' (first | with_reducible exact Below.refl _ _ | with_reducible assumption | exact Nat.le_refl _ | with_reducible refine Go.Proofs.Ytncmhenfgbcihaa.Rd.below_drewN ?_ _ | with_reducible refine Below.alloc ?_ ?_ _ | with_reducible refine Below.setCell ?_ ?_ _ | with_reducible refine Below.drew ?_ | omega | (simp; omega) | (simp; done))), ?_, ⟨?_, ?_⟩, ⟨?_, ?_, ?_, ?_, ?_, ?_, ?_, ?_⟩⟩
        all_goals go_simp
      rintro W ⟨hbw, hbr, hsz, ⟨f1, f2⟩, ⟨m0, m1, m2, m3, m4, m5, m6, m7⟩⟩
      have hbs := hbw.size
      have hfW := hf0.mono hbw hbs
      have hmW := hvm.mono hbw hbs
      have htW := hts0.next hbw
      clear c1 c2 k0 k1 k2 k3 k4 k5 k6 k7 mel
      obtain ⟨ph, hph⟩ : ∃ p, Hid (Form.head f.classes.length t 2400 = p) := ⟨_, rfl⟩
      obtain ⟨Z, hS⟩ : ∃ S, Hid (Form.slots t.params = S) := ⟨_, rfl⟩
      obtain ⟨pl, hpl⟩ : ∃ p, Hid (within t.regs 1 90 = p) := ⟨_, rfl⟩
      cases ph
      ·
        refine wp_region_held_drew (S := fun w' => (w'.cell? ⟨w.heap.size, 0, none⟩ = some vc ∧ w'.cell? ⟨w.heap.size, 1, none⟩ = some (.slice (some ⟨b, o, none⟩) f.methods.length mcap)) ∧ w'.cell? ⟨wr.heap.size, 0, none⟩ = some (.slice pa t.params.length pcap) ∧ w'.cell? ⟨wr.heap.size, 1, none⟩ = some (.int .i64 t.ret.kind) ∧ w'.cell? ⟨wr.heap.size, 2, none⟩ = some (.int .i64 t.ret.cls) ∧ w'.cell? ⟨wr.heap.size, 3, none⟩ = some (.int .i64 t.stack) ∧ w'.cell? ⟨wr.heap.size, 4, none⟩ = some (.int .i64 t.locals) ∧ w'.cell? ⟨wr.heap.size, 5, none⟩ = some (.int .i64 t.regs) ∧ w'.cell? ⟨wr.heap.size, 6, none⟩ = some (.slice da t.code.length dcap) ∧ w'.cell? ⟨wr.heap.size, 7, none⟩ = some (.slice ha t.handlers.length hcap)) (by kernel_rfl) (by (try dsimp only); first | exact ⟨⟨f1, f2⟩, m0, m1, m2, m3, m4, m5, m6, m7⟩ | go_keep) (fun hHeld => ?_)
        refine Drawn.take (i := 0) (d := some 29) (v := ?v0) rfl rfl (by kernel_rfl) (by kernel_rfl) (by kernel_rfl) (fun _ _ _ h => h) (by rfl) ?hy0 (by assumption) ?rest0
        case hy0 => (intro w hSw; (try dsimp only at hSw); go_simp; try with_reducible rfl)
        case' rest0 => try simp only [Act.put, List.setIfInBounds_toArray, List.set_cons_zero, List.set_cons_succ]
        refine Drawn.take (i := 1) (d := some 30) (v := ?v1) rfl rfl (by kernel_rfl) (by kernel_rfl) (by kernel_rfl) (fun _ _ _ h => h) (by rfl) ?hy1 (by assumption) ?rest1
        case hy1 => (intro w hSw; (try dsimp only at hSw); go_simp; try with_reducible rfl)
        case' rest1 => try simp only [Act.put, List.setIfInBounds_toArray, List.set_cons_zero, List.set_cons_succ]
        refine wpAnyH_ready (rs := [2]) (by kernel_rfl) (by simp) ?_
        refine AllReadyH.cons rfl (fun K hK => ?_) AllReadyH.nil
        go_simp
        go_at_call 49
        refine (FormR.headV f t 2400 _ _ _ _ hph.out (hfW.mono (by repeat' (first | with_reducible exact Below.refl _ _ | with_reducible assumption | exact Nat.le_refl _ | with_reducible refine Go.Proofs.Ytncmhenfgbcihaa.Rd.below_drewN ?_ _ | with_reducible refine Below.alloc ?_ ?_ _ | with_reducible refine Below.setCell ?_ ?_ _ | with_reducible refine Below.drew ?_ | omega | (simp; omega) | (simp; done))) (by simp)) (hmW.mono (by repeat' (first | with_reducible exact Below.refl _ _ | with_reducible assumption | exact Nat.le_refl _ | with_reducible refine Go.Proofs.Ytncmhenfgbcihaa.Rd.below_drewN ?_ _ | with_reducible refine Below.alloc ?_ ?_ _ | with_reducible refine Below.setCell ?_ ?_ _ | with_reducible refine Below.drew ?_ | omega | (simp; omega) | (simp; done))) (by simp)) (by omega)).mono ?_
        rintro e w2 ⟨rfl, hb2⟩
        have hbW : Below W.heap.size W w2 := Below.trans (by repeat' (first | with_reducible exact Below.refl _ _ | with_reducible assumption | exact Nat.le_refl _ | with_reducible refine Go.Proofs.Ytncmhenfgbcihaa.Rd.below_drewN ?_ _ | with_reducible refine Below.alloc ?_ ?_ _ | with_reducible refine Below.setCell ?_ ?_ _ | with_reducible refine Below.drew ?_ | omega | (simp; omega) | (simp; done))) (hb2.mono (by simp))
        have k2 := B2.next ⟨f1, f2⟩ hbW (by omega)
        have k8 := B8.next ⟨m0, m1, m2, m3, m4, m5, m6, m7⟩ hbW (by omega)
        go_wp2_with fail
        refine hK.out _ _ (by (try dsimp only); exact ⟨k2, k8⟩) (fun hHeld => ?_)
        clear hK K
        try simp only [Act.put, List.setIfInBounds_toArray, List.set_cons_zero, List.set_cons_succ]
        refine Drawn.take (i := 3) (d := some 32) (v := ?v2) rfl rfl (by kernel_rfl) (by kernel_rfl) (by kernel_rfl) (fun _ _ _ h => h) (by rfl) ?hy2 (by assumption) ?rest2
        case hy2 => (intro w hSw; (try dsimp only at hSw); go_simp; try with_reducible rfl)
        case' rest2 => try simp only [Act.put, List.setIfInBounds_toArray, List.set_cons_zero, List.set_cons_succ]
        refine Drawn.take (i := 4) (d := some 33) (v := ?v3) rfl rfl (by kernel_rfl) (by kernel_rfl) (by kernel_rfl) (fun _ _ _ h => h) (by rfl) ?hy3 (by assumption) ?rest3
        case hy3 => (intro w hSw; (try dsimp only at hSw); go_simp; try with_reducible rfl)
        case' rest3 => try simp only [Act.put, List.setIfInBounds_toArray, List.set_cons_zero, List.set_cons_succ]
        refine Drawn.pass (i := 5) (d := some 34) rfl rfl (by kernel_rfl) (by kernel_rfl) (by kernel_rfl) (fun _ _ _ h => h) (by rfl) (by assumption) ?rest95
        case' rest95 => try simp only [Act.put, List.setIfInBounds_toArray, List.set_cons_zero, List.set_cons_succ]
        refine Drawn.pass (i := 6) (d := some 35) rfl rfl (by kernel_rfl) (by kernel_rfl) (by kernel_rfl) (fun _ _ _ h => h) (by rfl) (by assumption) ?rest96
        case' rest96 => try simp only [Act.put, List.setIfInBounds_toArray, List.set_cons_zero, List.set_cons_succ]
        refine Drawn.pass (i := 7) (d := some 36) rfl rfl (by kernel_rfl) (by kernel_rfl) (by kernel_rfl) (fun _ _ _ h => h) (by rfl) (by assumption) ?rest97
        case' rest97 => try simp only [Act.put, List.setIfInBounds_toArray, List.set_cons_zero, List.set_cons_succ]
        refine Drawn.take (i := 8) (d := some 37) (v := ?v4) rfl rfl (by kernel_rfl) (by kernel_rfl) (by kernel_rfl) (fun _ _ _ h => h) (by rfl) ?hy4 (by assumption) ?rest4
        case hy4 => (intro w hSw; (try dsimp only at hSw); go_simp; try with_reducible rfl)
        case' rest4 => try simp only [Act.put, List.setIfInBounds_toArray, List.set_cons_zero, List.set_cons_succ]
        refine Drawn.take (i := 9) (d := some 38) (v := ?v5) rfl rfl (by kernel_rfl) (by kernel_rfl) (by kernel_rfl) (fun _ _ _ h => h) (by rfl) ?hy5 (by assumption) ?rest5
        case hy5 => (intro w hSw; (try dsimp only at hSw); go_simp; try with_reducible rfl)
        case' rest5 => try simp only [Act.put, List.setIfInBounds_toArray, List.set_cons_zero, List.set_cons_succ]
        refine Drawn.pass (i := 10) (d := some 39) rfl rfl (by kernel_rfl) (by kernel_rfl) (by kernel_rfl) (fun _ _ _ h => h) (by rfl) (by assumption) ?rest98
        case' rest98 => try simp only [Act.put, List.setIfInBounds_toArray, List.set_cons_zero, List.set_cons_succ]
        refine Drawn.pass (i := 11) (d := some 40) rfl rfl (by kernel_rfl) (by kernel_rfl) (by kernel_rfl) (fun _ _ _ h => h) (by rfl) (by assumption) ?rest99
        case' rest99 => try simp only [Act.put, List.setIfInBounds_toArray, List.set_cons_zero, List.set_cons_succ]
        refine Drawn.pass (i := 12) (d := some 41) rfl rfl (by kernel_rfl) (by kernel_rfl) (by kernel_rfl) (fun _ _ _ h => h) (by rfl) (by assumption) ?rest100
        case' rest100 => try simp only [Act.put, List.setIfInBounds_toArray, List.set_cons_zero, List.set_cons_succ]
        refine Drawn.take (i := 13) (d := some 42) (v := ?v6) rfl rfl (by kernel_rfl) (by kernel_rfl) (by kernel_rfl) (fun _ _ _ h => h) (by rfl) ?hy6 (by assumption) ?rest6
        case hy6 => (intro w hSw; (try dsimp only at hSw); go_simp; try with_reducible rfl)
        case' rest6 => try simp only [Act.put, List.setIfInBounds_toArray, List.set_cons_zero, List.set_cons_succ]
        refine Drawn.take (i := 14) (d := some 43) (v := ?v7) rfl rfl (by kernel_rfl) (by kernel_rfl) (by kernel_rfl) (fun _ _ _ h => h) (by rfl) ?hy7 (by assumption) ?rest7
        case hy7 => (intro w hSw; (try dsimp only at hSw); go_simp; try with_reducible rfl)
        case' rest7 => try simp only [Act.put, List.setIfInBounds_toArray, List.set_cons_zero, List.set_cons_succ]
        refine Drawn.pass (i := 15) (d := some 44) rfl rfl (by kernel_rfl) (by kernel_rfl) (by kernel_rfl) (fun _ _ _ h => h) (by rfl) (by assumption) ?rest101
        case' rest101 => try simp only [Act.put, List.setIfInBounds_toArray, List.set_cons_zero, List.set_cons_succ]
        refine Drawn.pass (i := 16) (d := some 45) rfl rfl (by kernel_rfl) (by kernel_rfl) (by kernel_rfl) (fun _ _ _ h => h) (by rfl) (by assumption) ?rest102
        case' rest102 => try simp only [Act.put, List.setIfInBounds_toArray, List.set_cons_zero, List.set_cons_succ]
        refine Drawn.pass (i := 17) (d := some 46) rfl rfl (by kernel_rfl) (by kernel_rfl) (by kernel_rfl) (fun _ _ _ h => h) (by rfl) (by assumption) ?rest103
        case' rest103 => try simp only [Act.put, List.setIfInBounds_toArray, List.set_cons_zero, List.set_cons_succ]
        refine Drawn.pass (i := 18) (d := some 47) rfl rfl (by kernel_rfl) (by kernel_rfl) (by kernel_rfl) (fun _ _ _ h => h) (by rfl) (by assumption) ?rest104
        case' rest104 => try simp only [Act.put, List.setIfInBounds_toArray, List.set_cons_zero, List.set_cons_succ]
        refine Drawn.take (i := 19) (d := some 48) (v := ?v8) rfl rfl (by kernel_rfl) (by kernel_rfl) (by kernel_rfl) (fun _ _ _ h => h) (by rfl) ?hy8 (by assumption) ?rest8
        case hy8 => (intro w hSw; (try dsimp only at hSw); go_simp; try with_reducible rfl)
        case' rest8 => try simp only [Act.put, List.setIfInBounds_toArray, List.set_cons_zero, List.set_cons_succ]
        refine Drawn.take (i := 20) (d := some 49) (v := ?v9) rfl rfl (by kernel_rfl) (by kernel_rfl) (by kernel_rfl) (fun _ _ _ h => h) (by rfl) ?hy9 (by assumption) ?rest9
        case hy9 => (intro w hSw; (try dsimp only at hSw); go_simp; try with_reducible rfl)
        case' rest9 => try simp only [Act.put, List.setIfInBounds_toArray, List.set_cons_zero, List.set_cons_succ]
        refine Drawn.pass (i := 21) (d := some 50) rfl rfl (by kernel_rfl) (by kernel_rfl) (by kernel_rfl) (fun _ _ _ h => h) (by rfl) (by assumption) ?rest105
        case' rest105 => try simp only [Act.put, List.setIfInBounds_toArray, List.set_cons_zero, List.set_cons_succ]
        refine Drawn.pass (i := 22) (d := some 51) rfl rfl (by kernel_rfl) (by kernel_rfl) (by kernel_rfl) (fun _ _ _ h => h) (by rfl) (by assumption) ?rest106
        case' rest106 => try simp only [Act.put, List.setIfInBounds_toArray, List.set_cons_zero, List.set_cons_succ]
        refine Drawn.pass (i := 23) (d := some 52) rfl rfl (by kernel_rfl) (by kernel_rfl) (by kernel_rfl) (fun _ _ _ h => h) (by rfl) (by assumption) ?rest107
        case' rest107 => try simp only [Act.put, List.setIfInBounds_toArray, List.set_cons_zero, List.set_cons_succ]
        refine Drawn.pass (i := 24) (d := some 53) rfl rfl (by kernel_rfl) (by kernel_rfl) (by kernel_rfl) (fun _ _ _ h => h) (by rfl) (by assumption) ?rest108
        case' rest108 => try simp only [Act.put, List.setIfInBounds_toArray, List.set_cons_zero, List.set_cons_succ]
        refine Drawn.pass (i := 25) (d := some 54) rfl rfl (by kernel_rfl) (by kernel_rfl) (by kernel_rfl) (fun _ _ _ h => h) (by rfl) (by assumption) ?rest109
        case' rest109 => try simp only [Act.put, List.setIfInBounds_toArray, List.set_cons_zero, List.set_cons_succ]
        refine Drawn.pass (i := 26) (d := some 55) rfl rfl (by kernel_rfl) (by kernel_rfl) (by kernel_rfl) (fun _ _ _ h => h) (by rfl) (by assumption) ?rest110
        case' rest110 => try simp only [Act.put, List.setIfInBounds_toArray, List.set_cons_zero, List.set_cons_succ]
        refine Drawn.take (i := 27) (d := some 56) (v := ?v10) rfl rfl (by kernel_rfl) (by kernel_rfl) (by kernel_rfl) (fun _ _ _ h => h) (by rfl) ?hy10 (by assumption) ?rest10
        case hy10 => (intro w hSw; (try dsimp only at hSw); go_simp; try with_reducible rfl)
        case' rest10 => try simp only [Act.put, List.setIfInBounds_toArray, List.set_cons_zero, List.set_cons_succ]
        refine wpAnyH_done (by kernel_rfl) ?_ _
        go_wp2
        go_ret
        exact ⟨ret_bool (by rw [hall0.out]; simp [hno.out (rme_head hph.out)]), hbw.trans (hbW.mono hbs)⟩
      · by_cases hs0 : t.stack = 0
        · have hst0 : (t.stack != 0) = false := by simpa using hs0
          have HS0 := Lib.hid hs0
          clear hs0
          by_cases hl0 : t.locals = 0
          · have hlo0 : (t.locals != 0) = false := by simpa using hl0
            have HL0 := Lib.hid hl0
            clear hl0
            have hp4 : t.params.length ≤ 4 := by
              have h := hph.out
              simp only [Form.head, Bool.and_eq_true, decide_eq_true_eq] at h
              exact h.1.1.1.2
            cases pl
            ·
              refine wp_region_held_drew (S := fun w' => (w'.cell? ⟨w.heap.size, 0, none⟩ = some vc ∧ w'.cell? ⟨w.heap.size, 1, none⟩ = some (.slice (some ⟨b, o, none⟩) f.methods.length mcap)) ∧ w'.cell? ⟨wr.heap.size, 0, none⟩ = some (.slice pa t.params.length pcap) ∧ w'.cell? ⟨wr.heap.size, 1, none⟩ = some (.int .i64 t.ret.kind) ∧ w'.cell? ⟨wr.heap.size, 2, none⟩ = some (.int .i64 t.ret.cls) ∧ w'.cell? ⟨wr.heap.size, 3, none⟩ = some (.int .i64 t.stack) ∧ w'.cell? ⟨wr.heap.size, 4, none⟩ = some (.int .i64 t.locals) ∧ w'.cell? ⟨wr.heap.size, 5, none⟩ = some (.int .i64 t.regs) ∧ w'.cell? ⟨wr.heap.size, 6, none⟩ = some (.slice da t.code.length dcap) ∧ w'.cell? ⟨wr.heap.size, 7, none⟩ = some (.slice ha t.handlers.length hcap)) (by kernel_rfl) (by (try dsimp only); first | exact ⟨⟨f1, f2⟩, m0, m1, m2, m3, m4, m5, m6, m7⟩ | go_keep) (fun hHeld => ?_)
              refine Drawn.take (i := 0) (d := some 29) (v := ?v11) rfl rfl (by kernel_rfl) (by kernel_rfl) (by kernel_rfl) (fun _ _ _ h => h) (by rfl) ?hy11 (by assumption) ?rest11
              case hy11 => (intro w hSw; (try dsimp only at hSw); go_simp; try with_reducible rfl)
              case' rest11 => try simp only [Act.put, List.setIfInBounds_toArray, List.set_cons_zero, List.set_cons_succ]
              refine Drawn.take (i := 1) (d := some 30) (v := ?v12) rfl rfl (by kernel_rfl) (by kernel_rfl) (by kernel_rfl) (fun _ _ _ h => h) (by rfl) ?hy12 (by assumption) ?rest12
              case hy12 => (intro w hSw; (try dsimp only at hSw); go_simp; try with_reducible rfl)
              case' rest12 => try simp only [Act.put, List.setIfInBounds_toArray, List.set_cons_zero, List.set_cons_succ]
              refine wpAnyH_ready (rs := [2]) (by kernel_rfl) (by simp) ?_
              refine AllReadyH.cons rfl (fun K hK => ?_) AllReadyH.nil
              go_simp
              go_at_call 49
              refine (FormR.headV f t 2400 _ _ _ _ hph.out (hfW.mono (by repeat' (first | with_reducible exact Below.refl _ _ | with_reducible assumption | exact Nat.le_refl _ | with_reducible refine Go.Proofs.Ytncmhenfgbcihaa.Rd.below_drewN ?_ _ | with_reducible refine Below.alloc ?_ ?_ _ | with_reducible refine Below.setCell ?_ ?_ _ | with_reducible refine Below.drew ?_ | omega | (simp; omega) | (simp; done))) (by simp)) (hmW.mono (by repeat' (first | with_reducible exact Below.refl _ _ | with_reducible assumption | exact Nat.le_refl _ | with_reducible refine Go.Proofs.Ytncmhenfgbcihaa.Rd.below_drewN ?_ _ | with_reducible refine Below.alloc ?_ ?_ _ | with_reducible refine Below.setCell ?_ ?_ _ | with_reducible refine Below.drew ?_ | omega | (simp; omega) | (simp; done))) (by simp)) (by omega)).mono ?_
              rintro e w2 ⟨rfl, hb2⟩
              have hbW : Below W.heap.size W w2 := Below.trans (by repeat' (first | with_reducible exact Below.refl _ _ | with_reducible assumption | exact Nat.le_refl _ | with_reducible refine Go.Proofs.Ytncmhenfgbcihaa.Rd.below_drewN ?_ _ | with_reducible refine Below.alloc ?_ ?_ _ | with_reducible refine Below.setCell ?_ ?_ _ | with_reducible refine Below.drew ?_ | omega | (simp; omega) | (simp; done))) (hb2.mono (by simp))
              have k2 := B2.next ⟨f1, f2⟩ hbW (by omega)
              have k8 := B8.next ⟨m0, m1, m2, m3, m4, m5, m6, m7⟩ hbW (by omega)
              go_wp2_with fail
              refine hK.out _ _ (by (try dsimp only); exact ⟨k2, k8⟩) (fun hHeld => ?_)
              clear hK K
              try simp only [Act.put, List.setIfInBounds_toArray, List.set_cons_zero, List.set_cons_succ]
              refine Drawn.take (i := 3) (d := some 32) (v := ?v13) rfl rfl (by kernel_rfl) (by kernel_rfl) (by kernel_rfl) (fun _ _ _ h => h) (by rfl) ?hy13 (by assumption) ?rest13
              case hy13 => (intro w hSw; (try dsimp only at hSw); go_simp; try with_reducible rfl)
              case' rest13 => try simp only [Act.put, List.setIfInBounds_toArray, List.set_cons_zero, List.set_cons_succ]
              refine Drawn.take (i := 4) (d := some 33) (v := ?v14) rfl rfl (by kernel_rfl) (by kernel_rfl) (by kernel_rfl) (fun _ _ _ h => h) (by rfl) ?hy14 (by assumption) ?rest14
              case hy14 => (intro w hSw; (try dsimp only at hSw); go_simp; try with_reducible rfl)
              case' rest14 => try simp only [Act.put, List.setIfInBounds_toArray, List.set_cons_zero, List.set_cons_succ]
              refine Drawn.take (i := 5) (d := some 34) (v := ?v15) rfl rfl (by kernel_rfl) (by kernel_rfl) (by kernel_rfl) (fun _ _ _ h => h) (by rfl) ?hy15 (by assumption) ?rest15
              case hy15 => (intro w hSw; (try dsimp only at hSw); go_simp; try with_reducible rfl)
              case' rest15 => try simp only [Act.put, List.setIfInBounds_toArray, List.set_cons_zero, List.set_cons_succ]
              refine Drawn.take (i := 6) (d := some 35) (v := ?v16) rfl rfl (by kernel_rfl) (by kernel_rfl) (by kernel_rfl) (fun _ _ _ h => h) (by rfl) ?hy16 (by assumption) ?rest16
              case hy16 => (intro w hSw; (try dsimp only at hSw); go_simp; try with_reducible rfl)
              case' rest16 => try simp only [Act.put, List.setIfInBounds_toArray, List.set_cons_zero, List.set_cons_succ]
              refine Drawn.take (i := 7) (d := some 36) (v := ?v17) rfl rfl (by kernel_rfl) (by kernel_rfl) (by kernel_rfl) (fun _ _ _ h => h) (by rfl) ?hy17 (by assumption) ?rest17
              case hy17 => (intro w hSw; (try dsimp only at hSw); go_simp; try with_reducible rfl)
              case' rest17 => try simp only [Act.put, List.setIfInBounds_toArray, List.set_cons_zero, List.set_cons_succ]
              refine Drawn.take (i := 8) (d := some 37) (v := ?v18) rfl rfl (by kernel_rfl) (by kernel_rfl) (by kernel_rfl) (fun _ _ _ h => h) (by rfl) ?hy18 (by assumption) ?rest18
              case hy18 => (intro w hSw; (try dsimp only at hSw); go_simp; try with_reducible rfl)
              case' rest18 => try simp only [Act.put, List.setIfInBounds_toArray, List.set_cons_zero, List.set_cons_succ]
              refine Drawn.take (i := 9) (d := some 38) (v := ?v19) rfl rfl (by kernel_rfl) (by kernel_rfl) (by kernel_rfl) (fun _ _ _ h => h) (by rfl) ?hy19 (by assumption) ?rest19
              case hy19 => (intro w hSw; (try dsimp only at hSw); go_simp; try with_reducible rfl)
              case' rest19 => try simp only [Act.put, List.setIfInBounds_toArray, List.set_cons_zero, List.set_cons_succ]
              refine Drawn.take (i := 10) (d := some 39) (v := ?v20) rfl rfl (by kernel_rfl) (by kernel_rfl) (by kernel_rfl) (fun _ _ _ h => h) (by rfl) ?hy20 (by assumption) ?rest20
              case hy20 => (intro w hSw; (try dsimp only at hSw); go_simp; try with_reducible rfl)
              case' rest20 => try simp only [Act.put, List.setIfInBounds_toArray, List.set_cons_zero, List.set_cons_succ]
              refine Drawn.take (i := 11) (d := some 40) (v := ?v21) rfl rfl (by kernel_rfl) (by kernel_rfl) (by kernel_rfl) (fun _ _ _ h => h) (by rfl) ?hy21 (by assumption) ?rest21
              case hy21 => (intro w hSw; (try dsimp only at hSw); go_simp; try with_reducible rfl)
              case' rest21 => try simp only [Act.put, List.setIfInBounds_toArray, List.set_cons_zero, List.set_cons_succ]
              refine Drawn.take (i := 12) (d := some 41) (v := ?v22) rfl rfl (by kernel_rfl) (by kernel_rfl) (by kernel_rfl) (fun _ _ _ h => h) (by rfl) ?hy22 (by assumption) ?rest22
              case hy22 => (intro w hSw; (try dsimp only at hSw); go_simp; try with_reducible rfl)
              case' rest22 => try simp only [Act.put, List.setIfInBounds_toArray, List.set_cons_zero, List.set_cons_succ]
              refine Drawn.take (i := 13) (d := some 42) (v := ?v23) rfl rfl (by kernel_rfl) (by kernel_rfl) (by kernel_rfl) (fun _ _ _ h => h) (by rfl) ?hy23 (by assumption) ?rest23
              case hy23 => (intro w hSw; (try dsimp only at hSw); go_simp; try with_reducible rfl)
              case' rest23 => try simp only [Act.put, List.setIfInBounds_toArray, List.set_cons_zero, List.set_cons_succ]
              refine Drawn.take (i := 14) (d := some 43) (v := ?v24) rfl rfl (by kernel_rfl) (by kernel_rfl) (by kernel_rfl) (fun _ _ _ h => h) (by rfl) ?hy24 (by assumption) ?rest24
              case hy24 => (intro w hSw; (try dsimp only at hSw); go_simp; try with_reducible rfl)
              case' rest24 => try simp only [Act.put, List.setIfInBounds_toArray, List.set_cons_zero, List.set_cons_succ]
              refine Drawn.take (i := 15) (d := some 44) (v := ?v25) rfl rfl (by kernel_rfl) (by kernel_rfl) (by kernel_rfl) (fun _ _ _ h => h) (by rfl) ?hy25 (by assumption) ?rest25
              case hy25 => (intro w hSw; (try dsimp only at hSw); go_simp; try with_reducible rfl)
              case' rest25 => try simp only [Act.put, List.setIfInBounds_toArray, List.set_cons_zero, List.set_cons_succ]
              refine Drawn.take (i := 16) (d := some 45) (v := ?v26) rfl rfl (by kernel_rfl) (by kernel_rfl) (by kernel_rfl) (fun _ _ _ h => h) (by rfl) ?hy26 (by assumption) ?rest26
              case hy26 => (intro w hSw; (try dsimp only at hSw); go_simp; try with_reducible rfl)
              case' rest26 => try simp only [Act.put, List.setIfInBounds_toArray, List.set_cons_zero, List.set_cons_succ]
              refine wpAnyH_ready (rs := [17]) (by kernel_rfl) (by simp) ?_
              refine AllReadyH.cons rfl (fun K hK => ?_) AllReadyH.nil
              go_simp
              go_at_call 48
              refine (wiV _ _ _ _ _ hpl.out).mono ?_
              rintro e w3 ⟨rfl, rfl⟩
              go_wp2_with fail
              refine hK.out _ _ (by (try dsimp only); exact ⟨k2, k8⟩) (fun hHeld => ?_)
              clear hK K
              try simp only [Act.put, List.setIfInBounds_toArray, List.set_cons_zero, List.set_cons_succ]
              refine Drawn.take (i := 18) (d := some 47) (v := ?v27) rfl rfl (by kernel_rfl) (by kernel_rfl) (by kernel_rfl) (fun _ _ _ h => h) (by rfl) ?hy27 (by assumption) ?rest27
              case hy27 => (intro w hSw; (try dsimp only at hSw); go_simp; try with_reducible rfl)
              case' rest27 => try simp only [Act.put, List.setIfInBounds_toArray, List.set_cons_zero, List.set_cons_succ]
              refine Drawn.take (i := 19) (d := some 48) (v := ?v28) rfl rfl (by kernel_rfl) (by kernel_rfl) (by kernel_rfl) (fun _ _ _ h => h) (by rfl) ?hy28 (by assumption) ?rest28
              case hy28 => (intro w hSw; (try dsimp only at hSw); go_simp; try with_reducible rfl)
              case' rest28 => try simp only [Act.put, List.setIfInBounds_toArray, List.set_cons_zero, List.set_cons_succ]
              refine Drawn.take (i := 20) (d := some 49) (v := ?v29) rfl rfl (by kernel_rfl) (by kernel_rfl) (by kernel_rfl) (fun _ _ _ h => h) (by rfl) ?hy29 (by assumption) ?rest29
              case hy29 => (intro w hSw; (try dsimp only at hSw); go_simp; try with_reducible rfl)
              case' rest29 => try simp only [Act.put, List.setIfInBounds_toArray, List.set_cons_zero, List.set_cons_succ]
              refine Drawn.pass (i := 21) (d := some 50) rfl rfl (by kernel_rfl) (by kernel_rfl) (by kernel_rfl) (fun _ _ _ h => h) (by rfl) (by assumption) ?rest111
              case' rest111 => try simp only [Act.put, List.setIfInBounds_toArray, List.set_cons_zero, List.set_cons_succ]
              refine Drawn.pass (i := 22) (d := some 51) rfl rfl (by kernel_rfl) (by kernel_rfl) (by kernel_rfl) (fun _ _ _ h => h) (by rfl) (by assumption) ?rest112
              case' rest112 => try simp only [Act.put, List.setIfInBounds_toArray, List.set_cons_zero, List.set_cons_succ]
              refine Drawn.pass (i := 23) (d := some 52) rfl rfl (by kernel_rfl) (by kernel_rfl) (by kernel_rfl) (fun _ _ _ h => h) (by rfl) (by assumption) ?rest113
              case' rest113 => try simp only [Act.put, List.setIfInBounds_toArray, List.set_cons_zero, List.set_cons_succ]
              refine Drawn.pass (i := 24) (d := some 53) rfl rfl (by kernel_rfl) (by kernel_rfl) (by kernel_rfl) (fun _ _ _ h => h) (by rfl) (by assumption) ?rest114
              case' rest114 => try simp only [Act.put, List.setIfInBounds_toArray, List.set_cons_zero, List.set_cons_succ]
              refine Drawn.pass (i := 25) (d := some 54) rfl rfl (by kernel_rfl) (by kernel_rfl) (by kernel_rfl) (fun _ _ _ h => h) (by rfl) (by assumption) ?rest115
              case' rest115 => try simp only [Act.put, List.setIfInBounds_toArray, List.set_cons_zero, List.set_cons_succ]
              refine Drawn.pass (i := 26) (d := some 55) rfl rfl (by kernel_rfl) (by kernel_rfl) (by kernel_rfl) (fun _ _ _ h => h) (by rfl) (by assumption) ?rest116
              case' rest116 => try simp only [Act.put, List.setIfInBounds_toArray, List.set_cons_zero, List.set_cons_succ]
              refine Drawn.take (i := 27) (d := some 56) (v := ?v30) rfl rfl (by kernel_rfl) (by kernel_rfl) (by kernel_rfl) (fun _ _ _ h => h) (by rfl) ?hy30 (by assumption) ?rest30
              case hy30 => (intro w hSw; (try dsimp only at hSw); go_simp; try with_reducible rfl)
              case' rest30 => try simp only [Act.put, List.setIfInBounds_toArray, List.set_cons_zero, List.set_cons_succ]
              refine wpAnyH_done (by kernel_rfl) ?_ _
              go_wp2
              go_ret
              exact ⟨ret_bool (by rw [hall0.out]; simp [hno.out (rme_regs (.inl hpl.out))]), hbw.trans (hbW.mono hbs)⟩
            ·
              refine wp_region_held_drew (S := fun w' => (w'.cell? ⟨w.heap.size, 0, none⟩ = some vc ∧ w'.cell? ⟨w.heap.size, 1, none⟩ = some (.slice (some ⟨b, o, none⟩) f.methods.length mcap)) ∧ w'.cell? ⟨wr.heap.size, 0, none⟩ = some (.slice pa t.params.length pcap) ∧ w'.cell? ⟨wr.heap.size, 1, none⟩ = some (.int .i64 t.ret.kind) ∧ w'.cell? ⟨wr.heap.size, 2, none⟩ = some (.int .i64 t.ret.cls) ∧ w'.cell? ⟨wr.heap.size, 3, none⟩ = some (.int .i64 t.stack) ∧ w'.cell? ⟨wr.heap.size, 4, none⟩ = some (.int .i64 t.locals) ∧ w'.cell? ⟨wr.heap.size, 5, none⟩ = some (.int .i64 t.regs) ∧ w'.cell? ⟨wr.heap.size, 6, none⟩ = some (.slice da t.code.length dcap) ∧ w'.cell? ⟨wr.heap.size, 7, none⟩ = some (.slice ha t.handlers.length hcap)) (by kernel_rfl) (by (try dsimp only); first | exact ⟨⟨f1, f2⟩, m0, m1, m2, m3, m4, m5, m6, m7⟩ | go_keep) (fun hHeld => ?_)
              refine Drawn.take (i := 0) (d := some 29) (v := ?v31) rfl rfl (by kernel_rfl) (by kernel_rfl) (by kernel_rfl) (fun _ _ _ h => h) (by rfl) ?hy31 (by assumption) ?rest31
              case hy31 => (intro w hSw; (try dsimp only at hSw); go_simp; try with_reducible rfl)
              case' rest31 => try simp only [Act.put, List.setIfInBounds_toArray, List.set_cons_zero, List.set_cons_succ]
              refine Drawn.take (i := 1) (d := some 30) (v := ?v32) rfl rfl (by kernel_rfl) (by kernel_rfl) (by kernel_rfl) (fun _ _ _ h => h) (by rfl) ?hy32 (by assumption) ?rest32
              case hy32 => (intro w hSw; (try dsimp only at hSw); go_simp; try with_reducible rfl)
              case' rest32 => try simp only [Act.put, List.setIfInBounds_toArray, List.set_cons_zero, List.set_cons_succ]
              refine wpAnyH_ready (rs := [2]) (by kernel_rfl) (by simp) ?_
              refine AllReadyH.cons rfl (fun K hK => ?_) AllReadyH.nil
              go_simp
              go_at_call 49
              refine (FormR.headV f t 2400 _ _ _ _ hph.out (hfW.mono (by repeat' (first | with_reducible exact Below.refl _ _ | with_reducible assumption | exact Nat.le_refl _ | with_reducible refine Go.Proofs.Ytncmhenfgbcihaa.Rd.below_drewN ?_ _ | with_reducible refine Below.alloc ?_ ?_ _ | with_reducible refine Below.setCell ?_ ?_ _ | with_reducible refine Below.drew ?_ | omega | (simp; omega) | (simp; done))) (by simp)) (hmW.mono (by repeat' (first | with_reducible exact Below.refl _ _ | with_reducible assumption | exact Nat.le_refl _ | with_reducible refine Go.Proofs.Ytncmhenfgbcihaa.Rd.below_drewN ?_ _ | with_reducible refine Below.alloc ?_ ?_ _ | with_reducible refine Below.setCell ?_ ?_ _ | with_reducible refine Below.drew ?_ | omega | (simp; omega) | (simp; done))) (by simp)) (by omega)).mono ?_
              rintro e w2 ⟨rfl, hb2⟩
              have hbW : Below W.heap.size W w2 := Below.trans (by repeat' (first | with_reducible exact Below.refl _ _ | with_reducible assumption | exact Nat.le_refl _ | with_reducible refine Go.Proofs.Ytncmhenfgbcihaa.Rd.below_drewN ?_ _ | with_reducible refine Below.alloc ?_ ?_ _ | with_reducible refine Below.setCell ?_ ?_ _ | with_reducible refine Below.drew ?_ | omega | (simp; omega) | (simp; done))) (hb2.mono (by simp))
              have k2 := B2.next ⟨f1, f2⟩ hbW (by omega)
              have k8 := B8.next ⟨m0, m1, m2, m3, m4, m5, m6, m7⟩ hbW (by omega)
              go_wp2_with fail
              refine hK.out _ _ (by (try dsimp only); exact ⟨k2, k8⟩) (fun hHeld => ?_)
              clear hK K
              try simp only [Act.put, List.setIfInBounds_toArray, List.set_cons_zero, List.set_cons_succ]
              refine Drawn.take (i := 3) (d := some 32) (v := ?v33) rfl rfl (by kernel_rfl) (by kernel_rfl) (by kernel_rfl) (fun _ _ _ h => h) (by rfl) ?hy33 (by assumption) ?rest33
              case hy33 => (intro w hSw; (try dsimp only at hSw); go_simp; try with_reducible rfl)
              case' rest33 => try simp only [Act.put, List.setIfInBounds_toArray, List.set_cons_zero, List.set_cons_succ]
              refine Drawn.take (i := 4) (d := some 33) (v := ?v34) rfl rfl (by kernel_rfl) (by kernel_rfl) (by kernel_rfl) (fun _ _ _ h => h) (by rfl) ?hy34 (by assumption) ?rest34
              case hy34 => (intro w hSw; (try dsimp only at hSw); go_simp; try with_reducible rfl)
              case' rest34 => try simp only [Act.put, List.setIfInBounds_toArray, List.set_cons_zero, List.set_cons_succ]
              refine Drawn.take (i := 5) (d := some 34) (v := ?v35) rfl rfl (by kernel_rfl) (by kernel_rfl) (by kernel_rfl) (fun _ _ _ h => h) (by rfl) ?hy35 (by assumption) ?rest35
              case hy35 => (intro w hSw; (try dsimp only at hSw); go_simp; try with_reducible rfl)
              case' rest35 => try simp only [Act.put, List.setIfInBounds_toArray, List.set_cons_zero, List.set_cons_succ]
              refine Drawn.take (i := 6) (d := some 35) (v := ?v36) rfl rfl (by kernel_rfl) (by kernel_rfl) (by kernel_rfl) (fun _ _ _ h => h) (by rfl) ?hy36 (by assumption) ?rest36
              case hy36 => (intro w hSw; (try dsimp only at hSw); go_simp; try with_reducible rfl)
              case' rest36 => try simp only [Act.put, List.setIfInBounds_toArray, List.set_cons_zero, List.set_cons_succ]
              refine Drawn.take (i := 7) (d := some 36) (v := ?v37) rfl rfl (by kernel_rfl) (by kernel_rfl) (by kernel_rfl) (fun _ _ _ h => h) (by rfl) ?hy37 (by assumption) ?rest37
              case hy37 => (intro w hSw; (try dsimp only at hSw); go_simp; try with_reducible rfl)
              case' rest37 => try simp only [Act.put, List.setIfInBounds_toArray, List.set_cons_zero, List.set_cons_succ]
              refine Drawn.take (i := 8) (d := some 37) (v := ?v38) rfl rfl (by kernel_rfl) (by kernel_rfl) (by kernel_rfl) (fun _ _ _ h => h) (by rfl) ?hy38 (by assumption) ?rest38
              case hy38 => (intro w hSw; (try dsimp only at hSw); go_simp; try with_reducible rfl)
              case' rest38 => try simp only [Act.put, List.setIfInBounds_toArray, List.set_cons_zero, List.set_cons_succ]
              refine Drawn.take (i := 9) (d := some 38) (v := ?v39) rfl rfl (by kernel_rfl) (by kernel_rfl) (by kernel_rfl) (fun _ _ _ h => h) (by rfl) ?hy39 (by assumption) ?rest39
              case hy39 => (intro w hSw; (try dsimp only at hSw); go_simp; try with_reducible rfl)
              case' rest39 => try simp only [Act.put, List.setIfInBounds_toArray, List.set_cons_zero, List.set_cons_succ]
              refine Drawn.take (i := 10) (d := some 39) (v := ?v40) rfl rfl (by kernel_rfl) (by kernel_rfl) (by kernel_rfl) (fun _ _ _ h => h) (by rfl) ?hy40 (by assumption) ?rest40
              case hy40 => (intro w hSw; (try dsimp only at hSw); go_simp; try with_reducible rfl)
              case' rest40 => try simp only [Act.put, List.setIfInBounds_toArray, List.set_cons_zero, List.set_cons_succ]
              refine Drawn.take (i := 11) (d := some 40) (v := ?v41) rfl rfl (by kernel_rfl) (by kernel_rfl) (by kernel_rfl) (fun _ _ _ h => h) (by rfl) ?hy41 (by assumption) ?rest41
              case hy41 => (intro w hSw; (try dsimp only at hSw); go_simp; try with_reducible rfl)
              case' rest41 => try simp only [Act.put, List.setIfInBounds_toArray, List.set_cons_zero, List.set_cons_succ]
              refine Drawn.take (i := 12) (d := some 41) (v := ?v42) rfl rfl (by kernel_rfl) (by kernel_rfl) (by kernel_rfl) (fun _ _ _ h => h) (by rfl) ?hy42 (by assumption) ?rest42
              case hy42 => (intro w hSw; (try dsimp only at hSw); go_simp; try with_reducible rfl)
              case' rest42 => try simp only [Act.put, List.setIfInBounds_toArray, List.set_cons_zero, List.set_cons_succ]
              refine Drawn.take (i := 13) (d := some 42) (v := ?v43) rfl rfl (by kernel_rfl) (by kernel_rfl) (by kernel_rfl) (fun _ _ _ h => h) (by rfl) ?hy43 (by assumption) ?rest43
              case hy43 => (intro w hSw; (try dsimp only at hSw); go_simp; try with_reducible rfl)
              case' rest43 => try simp only [Act.put, List.setIfInBounds_toArray, List.set_cons_zero, List.set_cons_succ]
              refine Drawn.take (i := 14) (d := some 43) (v := ?v44) rfl rfl (by kernel_rfl) (by kernel_rfl) (by kernel_rfl) (fun _ _ _ h => h) (by rfl) ?hy44 (by assumption) ?rest44
              case hy44 => (intro w hSw; (try dsimp only at hSw); go_simp; try with_reducible rfl)
              case' rest44 => try simp only [Act.put, List.setIfInBounds_toArray, List.set_cons_zero, List.set_cons_succ]
              refine Drawn.take (i := 15) (d := some 44) (v := ?v45) rfl rfl (by kernel_rfl) (by kernel_rfl) (by kernel_rfl) (fun _ _ _ h => h) (by rfl) ?hy45 (by assumption) ?rest45
              case hy45 => (intro w hSw; (try dsimp only at hSw); go_simp; try with_reducible rfl)
              case' rest45 => try simp only [Act.put, List.setIfInBounds_toArray, List.set_cons_zero, List.set_cons_succ]
              refine Drawn.take (i := 16) (d := some 45) (v := ?v46) rfl rfl (by kernel_rfl) (by kernel_rfl) (by kernel_rfl) (fun _ _ _ h => h) (by rfl) ?hy46 (by assumption) ?rest46
              case hy46 => (intro w hSw; (try dsimp only at hSw); go_simp; try with_reducible rfl)
              case' rest46 => try simp only [Act.put, List.setIfInBounds_toArray, List.set_cons_zero, List.set_cons_succ]
              refine wpAnyH_ready (rs := [17]) (by kernel_rfl) (by simp) ?_
              refine AllReadyH.cons rfl (fun K hK => ?_) AllReadyH.nil
              go_simp
              go_at_call 48
              refine (wiV _ _ _ _ _ hpl.out).mono ?_
              rintro e w3 ⟨rfl, rfl⟩
              go_wp2_with fail
              refine hK.out _ _ (by (try dsimp only); exact ⟨k2, k8⟩) (fun hHeld => ?_)
              clear hK K
              try simp only [Act.put, List.setIfInBounds_toArray, List.set_cons_zero, List.set_cons_succ]
              refine Drawn.take (i := 18) (d := some 47) (v := ?v47) rfl rfl (by kernel_rfl) (by kernel_rfl) (by kernel_rfl) (fun _ _ _ h => h) (by rfl) ?hy47 (by assumption) ?rest47
              case hy47 => (intro w hSw; (try dsimp only at hSw); go_simp; try with_reducible rfl)
              case' rest47 => try simp only [Act.put, List.setIfInBounds_toArray, List.set_cons_zero, List.set_cons_succ]
              refine Drawn.take (i := 19) (d := some 48) (v := ?v48) rfl rfl (by kernel_rfl) (by kernel_rfl) (by kernel_rfl) (fun _ _ _ h => h) (by rfl) ?hy48 (by assumption) ?rest48
              case hy48 => (intro w hSw; (try dsimp only at hSw); go_simp; try with_reducible rfl)
              case' rest48 => try simp only [Act.put, List.setIfInBounds_toArray, List.set_cons_zero, List.set_cons_succ]
              refine Drawn.take (i := 20) (d := some 49) (v := ?v49) rfl rfl (by kernel_rfl) (by kernel_rfl) (by kernel_rfl) (fun _ _ _ h => h) (by rfl) ?hy49 (by assumption) ?rest49
              case hy49 => (intro w hSw; (try dsimp only at hSw); go_simp; try with_reducible rfl)
              case' rest49 => try simp only [Act.put, List.setIfInBounds_toArray, List.set_cons_zero, List.set_cons_succ]
              refine Drawn.take (i := 21) (d := some 50) (v := ?v50) rfl rfl (by kernel_rfl) (by kernel_rfl) (by kernel_rfl) (fun _ _ _ h => h) (by rfl) ?hy50 (by assumption) ?rest50
              case hy50 => (intro w hSw; (try dsimp only at hSw); go_simp; try with_reducible rfl)
              case' rest50 => try simp only [Act.put, List.setIfInBounds_toArray, List.set_cons_zero, List.set_cons_succ]
              refine Drawn.take (i := 22) (d := some 51) (v := ?v51) rfl rfl (by kernel_rfl) (by kernel_rfl) (by kernel_rfl) (fun _ _ _ h => h) (by rfl) ?hy51 (by assumption) ?rest51
              case hy51 => (intro w hSw; (try dsimp only at hSw); go_simp; try with_reducible rfl)
              case' rest51 => try simp only [Act.put, List.setIfInBounds_toArray, List.set_cons_zero, List.set_cons_succ]
              refine Drawn.take (i := 23) (d := some 52) (v := ?v52) rfl rfl (by kernel_rfl) (by kernel_rfl) (by kernel_rfl) (fun _ _ _ h => h) (by rfl) ?hy52 (by assumption) ?rest52
              case hy52 => (intro w hSw; (try dsimp only at hSw); go_simp; try with_reducible rfl)
              case' rest52 => try simp only [Act.put, List.setIfInBounds_toArray, List.set_cons_zero, List.set_cons_succ]
              refine Drawn.take (i := 24) (d := some 53) (v := ?v53) rfl rfl (by kernel_rfl) (by kernel_rfl) (by kernel_rfl) (fun _ _ _ h => h) (by rfl) ?hy53 (by assumption) ?rest53
              case hy53 => (intro w hSw; (try dsimp only at hSw); go_simp; try with_reducible rfl)
              case' rest53 => try simp only [Act.put, List.setIfInBounds_toArray, List.set_cons_zero, List.set_cons_succ]
              refine wpAnyH_ready (rs := [25]) (by kernel_rfl) (by simp) ?_
              refine AllReadyH.cons rfl (fun K hK => ?_) AllReadyH.nil
              go_simp
              go_at_call 50
              refine (FormR.slotsV _ t.params Z _ (htW.next hbW) (by omega) hS.out).mono ?_
              rintro e w4 ⟨rfl, rfl⟩
              go_wp2_with fail
              refine hK.out _ _ (by (try dsimp only); exact ⟨k2, k8⟩) (fun hHeld => ?_)
              clear hK K
              try simp only [Act.put, List.setIfInBounds_toArray, List.set_cons_zero, List.set_cons_succ]
              refine Drawn.take (i := 26) (d := some 55) (v := ?v54) rfl rfl (by kernel_rfl) (by kernel_rfl) (by kernel_rfl) (fun _ _ _ h => h) (by rfl) ?hy54 (by assumption) ?rest54
              case hy54 => (intro w hSw; (try dsimp only at hSw); go_simp; try with_reducible rfl)
              case' rest54 => try simp only [Act.put, List.setIfInBounds_toArray, List.set_cons_zero, List.set_cons_succ]
              refine Drawn.take (i := 27) (d := some 56) (v := ?v55) rfl rfl (by kernel_rfl) (by kernel_rfl) (by kernel_rfl) (fun _ _ _ h => h) (by rfl) ?hy55 (by assumption) ?rest55
              case hy55 => (intro w hSw; (try dsimp only at hSw); go_simp; try with_reducible rfl)
              case' rest55 => try simp only [Act.put, List.setIfInBounds_toArray, List.set_cons_zero, List.set_cons_succ]
              refine wpAnyH_done (by kernel_rfl) ?_ _
              have hbX2 : Below w.heap.size w w2 := hbw.trans (hbW.mono hbs)
              have hbX3 := hbX2.size
              have hbX4 := hbW.size
              have hregs : 0 ≤ t.regs ∧ t.regs ≤ 90 := by
                have h := hpl.out
                simp only [within, decide_eq_true_eq] at h
                omega
              by_cases hlz : t.regs < (Z : Int)
              · have HLZ : Hid (t.regs < (Form.slots t.params : Nat)) := by show _ < _; rw [hS.out]; exact hlz
                go_wp2
                go_ret
                exact ⟨ret_bool (by rw [hall0.out]; simp [hno.out (rme_regs (.inr HLZ.out))]), hbX2⟩
              · have hnl : Hid (¬ t.regs < (Form.slots t.params : Nat)) := by show ¬ _; rw [hS.out]; exact hlz
                clear f1 f2 m0 m1 m2 m3 m4 m5 m6 m7 htW hfW hmW hts0
                obtain ⟨f1, f2⟩ := k2
                obtain ⟨m0, m1, m2, m3, m4, m5, m6, m7⟩ := k8
                have hw2 : Below wr.heap.size wr w2 := hbr.trans (hbW.mono hbr.size)
                go_wp2_with fail
                obtain ⟨wo, rfl⟩ : ∃ wo : World, wo = wr := ⟨_, rfl⟩
                go_loopw [5] (fun i wr => ∃ j : Nat, j ≤ t.code.length ∧ i = .int .i64 j ∧ Below w2.heap.size w2 wr ∧ Hid (∀ i (h : i < t.code.length), i < j → Rform.ins f t t.code[i] = true)) (fun i _ => t.code.length - (intOf i).toNat)
                case atStart => exact ⟨0, by omega, rfl, (by repeat' (first | with_reducible exact Below.refl _ _ | with_reducible assumption | exact Nat.le_refl _ | with_reducible refine Go.Proofs.Ytncmhenfgbcihaa.Rd.below_drewN ?_ _ | with_reducible refine Below.alloc ?_ ?_ _ | with_reducible refine Below.setCell ?_ ?_ _ | with_reducible refine Below.drew ?_ | omega | (simp; omega) | (simp; done))), fun j _ h => absurd h (by omega)⟩
                case round =>
                  obtain ⟨j, hj, rfl, hr, hall2⟩ := hrel
                  have hrs := hr.size
                  have hwr3 : Below w.heap.size w wr := hbX2.trans (hr.mono hbX3)
                  have hwr4 : Below wo.heap.size wo wr := hw2.trans (hr.mono hw2.size)
                  have hwrs3 := hwr3.size
                  have n4 : w.heap.size < wr.heap.size := by omega
                  have n5 : wo.heap.size < wr.heap.size := by omega
                  have c1 := kept hr (by omega) f1
                  have c2 := kept hr (by omega) f2
                  have c3 := kept hr (by omega) m0
                  have c4 := kept hr (by omega) m1
                  have c5 := kept hr (by omega) m2
                  have c6 := kept hr (by omega) m3
                  have c7 := kept hr (by omega) m4
                  have c8 := kept hr (by omega) m5
                  have c9 := kept hr (by omega) m6
                  have c10 := kept hr (by omega) m7
                  clear f1 f2 m0 m1 m2 m3 m4 m5 m6 m7
                  by_cases hlt2 : j < t.code.length
                  · obtain ⟨b2, o2, rfl, hb2', he2⟩ := del j hlt2
                    have hyes2 := Lib.hid (Form.all_step (p := Rform.ins f t) hall2.out hlt2)
                    have hno2 := Lib.hid (rme_ins (f := f) hlt2)
                    obtain ⟨x, hx⟩ := at_of hlt2
                    rw [hx.out] at he2 hyes2 hno2
                    obtain ⟨g1, g2, g3, g4, g5, oks, va, g6, gargs⟩ := he2
                    have hvi : VIns w w.heap.size (.agg #[.int .i64 x.op, .int .i64 x.a, .int .i64 x.b, .int .i64 x.c, .int .i64 x.n, va]) x := ⟨va, rfl, oks, gargs⟩
                    obtain ⟨aa, acap, rfl, alc, acc, _⟩ := gargs
                    have k1 := kept hwr3 hb2' g1
                    have k2 := kept hwr3 hb2' g2
                    have k3 := kept hwr3 hb2' g3
                    have k4 := kept hwr3 hb2' g4
                    have k5 := kept hwr3 hb2' g5
                    have k6 := kept hwr3 hb2' g6
                    have hI2 : (j : Int) < t.code.length := by omega
                    have hI3 : (0 : Int) ≤ (j : Int) ∧ (j : Int) < t.code.length := ⟨by omega, by omega⟩
                    clear del g1 g2 g3 g4 g5 g6
                    obtain ⟨p, hp⟩ : ∃ p, Hid (Rform.ins f t x = p) := ⟨_, rfl⟩
                    go_wp2_with fail
                    refine wp_region_held_drew (S := fun w' => (w'.cell? ⟨w.heap.size, 0, none⟩ = some vc ∧ w'.cell? ⟨w.heap.size, 1, none⟩ = some (.slice (some ⟨b, o, none⟩) f.methods.length mcap)) ∧ (w'.cell? ⟨wo.heap.size, 0, none⟩ = some (.slice pa t.params.length pcap) ∧ w'.cell? ⟨wo.heap.size, 1, none⟩ = some (.int .i64 t.ret.kind) ∧ w'.cell? ⟨wo.heap.size, 2, none⟩ = some (.int .i64 t.ret.cls) ∧ w'.cell? ⟨wo.heap.size, 3, none⟩ = some (.int .i64 t.stack) ∧ w'.cell? ⟨wo.heap.size, 4, none⟩ = some (.int .i64 t.locals) ∧ w'.cell? ⟨wo.heap.size, 5, none⟩ = some (.int .i64 t.regs) ∧ w'.cell? ⟨wo.heap.size, 6, none⟩ = some (.slice (some ⟨b2, o2, none⟩) t.code.length dcap) ∧ w'.cell? ⟨wo.heap.size, 7, none⟩ = some (.slice ha t.handlers.length hcap)) ∧ w'.cell? ⟨b2, o2 + j * 6, none⟩ = some (.int .i64 x.op) ∧ w'.cell? ⟨b2, o2 + j * 6 + 1, none⟩ = some (.int .i64 x.a) ∧ w'.cell? ⟨b2, o2 + j * 6 + 2, none⟩ = some (.int .i64 x.b) ∧ w'.cell? ⟨b2, o2 + j * 6 + 3, none⟩ = some (.int .i64 x.c) ∧ w'.cell? ⟨b2, o2 + j * 6 + 4, none⟩ = some (.int .i64 x.n) ∧ w'.cell? ⟨b2, o2 + j * 6 + 5, none⟩ = some (.slice aa x.args.length acap)) (by kernel_rfl) (by (try dsimp only); first | exact ⟨⟨c1, c2⟩, ⟨c3, c4, c5, c6, c7, c8, c9, c10⟩, k1, k2, k3, k4, k5, k6⟩ | go_keep) (fun hHeld => ?_)
                    refine Drawn.take (i := 0) (d := some 64) (v := ?v56) rfl rfl (by kernel_rfl) (by kernel_rfl) (by kernel_rfl) (fun _ _ _ h => h) (by rfl) ?hy56 (by assumption) ?rest56
                    case hy56 => (intro w hSw; (try dsimp only at hSw); go_simp; try with_reducible rfl)
                    case' rest56 => try simp only [Act.put, List.setIfInBounds_toArray, List.set_cons_zero, List.set_cons_succ]
                    refine Drawn.take (i := 1) (d := some 65) (v := ?v57) rfl rfl (by kernel_rfl) (by kernel_rfl) (by kernel_rfl) (fun _ _ _ h => h) (by rfl) ?hy57 (by assumption) ?rest57
                    case hy57 => (intro w hSw; (try dsimp only at hSw); go_simp; try with_reducible rfl)
                    case' rest57 => try simp only [Act.put, List.setIfInBounds_toArray, List.set_cons_zero, List.set_cons_succ]
                    refine Drawn.take (i := 2) (d := some 66) (v := ?v58) rfl rfl (by kernel_rfl) (by kernel_rfl) (by kernel_rfl) (fun _ _ _ h => h) (by rfl) ?hy58 (by assumption) ?rest58
                    case hy58 => (intro w hSw; (try dsimp only at hSw); go_simp; try with_reducible rfl)
                    case' rest58 => try simp only [Act.put, List.setIfInBounds_toArray, List.set_cons_zero, List.set_cons_succ]
                    refine Drawn.take (i := 3) (d := some 67) (v := ?v59) rfl rfl (by kernel_rfl) (by kernel_rfl) (by kernel_rfl) (fun _ _ _ h => h) (by rfl) ?hy59 (by assumption) ?rest59
                    case hy59 => (intro w hSw; (try dsimp only at hSw); go_simp; try with_reducible rfl)
                    case' rest59 => try simp only [Act.put, List.setIfInBounds_toArray, List.set_cons_zero, List.set_cons_succ]
                    refine Drawn.take (i := 4) (d := some 68) (v := ?v60) rfl rfl (by kernel_rfl) (by kernel_rfl) (by kernel_rfl) (fun _ _ _ h => h) (by rfl) ?hy60 (by assumption) ?rest60
                    case hy60 => (intro w hSw; (try dsimp only at hSw); go_simp; try with_reducible rfl)
                    case' rest60 => try simp only [Act.put, List.setIfInBounds_toArray, List.set_cons_zero, List.set_cons_succ]
                    refine Drawn.take (i := 5) (d := some 69) (v := ?v61) rfl rfl (by kernel_rfl) (by kernel_rfl) (by kernel_rfl) (fun _ _ _ h => h) (by rfl) ?hy61 (by assumption) ?rest61
                    case hy61 => (intro w hSw; (try dsimp only at hSw); go_simp; try with_reducible rfl)
                    case' rest61 => try simp only [Act.put, List.setIfInBounds_toArray, List.set_cons_zero, List.set_cons_succ]
                    refine Drawn.take (i := 6) (d := some 70) (v := ?v62) rfl rfl (by kernel_rfl) (by kernel_rfl) (by kernel_rfl) (fun _ _ _ h => h) (by rfl) ?hy62 (by assumption) ?rest62
                    case hy62 => (intro w hSw; (try dsimp only at hSw); go_simp; try with_reducible rfl)
                    case' rest62 => try simp only [Act.put, List.setIfInBounds_toArray, List.set_cons_zero, List.set_cons_succ]
                    refine wpAnyH_ready (rs := [7]) (by kernel_rfl) (by simp) ?_
                    refine AllReadyH.cons rfl (fun K hK => ?_) AllReadyH.nil
                    go_simp
                    go_at_call 56
                    refine (insV f t x p _ _ _ _ hp.out (hf0.mono (hwr3.drew) (by simp; omega)) (hvm.mono (hwr3.drew) (by simp; omega)) (hvi.mono (hwr3.drew) (by simp; omega)) hregs).mono ?_
                    rintro e w6 ⟨rfl, hb6⟩
                    have hw6 : Below wr.heap.size wr w6 := Below.trans (by repeat' (first | with_reducible exact Below.refl _ _ | with_reducible assumption | exact Nat.le_refl _ | with_reducible refine Go.Proofs.Ytncmhenfgbcihaa.Rd.below_drewN ?_ _ | with_reducible refine Below.alloc ?_ ?_ _ | with_reducible refine Below.setCell ?_ ?_ _ | with_reducible refine Below.drew ?_ | omega | (simp; omega) | (simp; done))) (hb6.mono (by simp))
                    have hw7 : Below wo.heap.size wo w6 := hwr4.trans (hw6.mono hwr4.size)
                    go_wp2_with fail
                    refine hK.out _ _ (by (try dsimp only); exact ⟨⟨kept hw6 n4 c1, kept hw6 n4 c2⟩, ⟨kept hw6 n5 c3, kept hw6 n5 c4, kept hw6 n5 c5, kept hw6 n5 c6, kept hw6 n5 c7, kept hw6 n5 c8, kept hw6 n5 c9, kept hw6 n5 c10⟩, kept hw6 (by omega) k1, kept hw6 (by omega) k2, kept hw6 (by omega) k3, kept hw6 (by omega) k4, kept hw6 (by omega) k5, kept hw6 (by omega) k6⟩) (fun hHeld => ?_)
                    clear hK K
                    try simp only [Act.put, List.setIfInBounds_toArray, List.set_cons_zero, List.set_cons_succ]
                    refine Drawn.take (i := 8) (d := some 72) (v := ?v63) rfl rfl (by kernel_rfl) (by kernel_rfl) (by kernel_rfl) (fun _ _ _ h => h) (by rfl) ?hy63 (by assumption) ?rest63
                    case hy63 => (intro w hSw; (try dsimp only at hSw); go_simp; try with_reducible rfl)
                    case' rest63 => try simp only [Act.put, List.setIfInBounds_toArray, List.set_cons_zero, List.set_cons_succ]
                    refine wpAnyH_done (by kernel_rfl) ?_ _
                    cases p
                    · go_wp2_with fail
                      go_ret
                      exact ⟨ret_bool (by rw [hall0.out]; simp [hno.out (hno2.out hp.out)]), hwr3.trans (hw6.mono hwrs3)⟩
                    · go_wp2_with fail
                      go_roundw
                      case rel => exact ⟨j + 1, by omega, by go_num, hr.trans (hw6.mono hrs), hyes2.out hp.out⟩
                      case measure => simp [intOf]; omega
                  · have hge2 : ¬ (j : Int) < t.code.length := by omega
                    have hh := Lib.hid (hyes.out (rme_yes hph.out HS0.out HL0.out hpl.out (by have := hnl.out; omega) (fun i hi => hall2.out i hi (by omega))))
                    clear del
                    go_wp2_with fail
                    go_roundw
                    case rel => exact ⟨k + 1, by omega, by go_num, hq2.out.trans (hbr.trans (hbW.mono hbr.size) |>.trans (hr.mono (hw2.size)) |>.mono hqs), hh.out⟩
                    case measure => simp [intOf]; omega
          · have hlo0 : (t.locals != 0) = true := by simpa using hl0
            have HL0 := Lib.hid hl0
            clear hl0
            refine wp_region_held_drew (S := fun w' => (w'.cell? ⟨w.heap.size, 0, none⟩ = some vc ∧ w'.cell? ⟨w.heap.size, 1, none⟩ = some (.slice (some ⟨b, o, none⟩) f.methods.length mcap)) ∧ w'.cell? ⟨wr.heap.size, 0, none⟩ = some (.slice pa t.params.length pcap) ∧ w'.cell? ⟨wr.heap.size, 1, none⟩ = some (.int .i64 t.ret.kind) ∧ w'.cell? ⟨wr.heap.size, 2, none⟩ = some (.int .i64 t.ret.cls) ∧ w'.cell? ⟨wr.heap.size, 3, none⟩ = some (.int .i64 t.stack) ∧ w'.cell? ⟨wr.heap.size, 4, none⟩ = some (.int .i64 t.locals) ∧ w'.cell? ⟨wr.heap.size, 5, none⟩ = some (.int .i64 t.regs) ∧ w'.cell? ⟨wr.heap.size, 6, none⟩ = some (.slice da t.code.length dcap) ∧ w'.cell? ⟨wr.heap.size, 7, none⟩ = some (.slice ha t.handlers.length hcap)) (by kernel_rfl) (by (try dsimp only); first | exact ⟨⟨f1, f2⟩, m0, m1, m2, m3, m4, m5, m6, m7⟩ | go_keep) (fun hHeld => ?_)
            refine Drawn.take (i := 0) (d := some 29) (v := ?v64) rfl rfl (by kernel_rfl) (by kernel_rfl) (by kernel_rfl) (fun _ _ _ h => h) (by rfl) ?hy64 (by assumption) ?rest64
            case hy64 => (intro w hSw; (try dsimp only at hSw); go_simp; try with_reducible rfl)
            case' rest64 => try simp only [Act.put, List.setIfInBounds_toArray, List.set_cons_zero, List.set_cons_succ]
            refine Drawn.take (i := 1) (d := some 30) (v := ?v65) rfl rfl (by kernel_rfl) (by kernel_rfl) (by kernel_rfl) (fun _ _ _ h => h) (by rfl) ?hy65 (by assumption) ?rest65
            case hy65 => (intro w hSw; (try dsimp only at hSw); go_simp; try with_reducible rfl)
            case' rest65 => try simp only [Act.put, List.setIfInBounds_toArray, List.set_cons_zero, List.set_cons_succ]
            refine wpAnyH_ready (rs := [2]) (by kernel_rfl) (by simp) ?_
            refine AllReadyH.cons rfl (fun K hK => ?_) AllReadyH.nil
            go_simp
            go_at_call 49
            refine (FormR.headV f t 2400 _ _ _ _ hph.out (hfW.mono (by repeat' (first | with_reducible exact Below.refl _ _ | with_reducible assumption | exact Nat.le_refl _ | with_reducible refine Go.Proofs.Ytncmhenfgbcihaa.Rd.below_drewN ?_ _ | with_reducible refine Below.alloc ?_ ?_ _ | with_reducible refine Below.setCell ?_ ?_ _ | with_reducible refine Below.drew ?_ | omega | (simp; omega) | (simp; done))) (by simp)) (hmW.mono (by repeat' (first | with_reducible exact Below.refl _ _ | with_reducible assumption | exact Nat.le_refl _ | with_reducible refine Go.Proofs.Ytncmhenfgbcihaa.Rd.below_drewN ?_ _ | with_reducible refine Below.alloc ?_ ?_ _ | with_reducible refine Below.setCell ?_ ?_ _ | with_reducible refine Below.drew ?_ | omega | (simp; omega) | (simp; done))) (by simp)) (by omega)).mono ?_
            rintro e w2 ⟨rfl, hb2⟩
            have hbW : Below W.heap.size W w2 := Below.trans (by repeat' (first | with_reducible exact Below.refl _ _ | with_reducible assumption | exact Nat.le_refl _ | with_reducible refine Go.Proofs.Ytncmhenfgbcihaa.Rd.below_drewN ?_ _ | with_reducible refine Below.alloc ?_ ?_ _ | with_reducible refine Below.setCell ?_ ?_ _ | with_reducible refine Below.drew ?_ | omega | (simp; omega) | (simp; done))) (hb2.mono (by simp))
            have k2 := B2.next ⟨f1, f2⟩ hbW (by omega)
            have k8 := B8.next ⟨m0, m1, m2, m3, m4, m5, m6, m7⟩ hbW (by omega)
            go_wp2_with fail
            refine hK.out _ _ (by (try dsimp only); exact ⟨k2, k8⟩) (fun hHeld => ?_)
            clear hK K
            try simp only [Act.put, List.setIfInBounds_toArray, List.set_cons_zero, List.set_cons_succ]
            refine Drawn.take (i := 3) (d := some 32) (v := ?v66) rfl rfl (by kernel_rfl) (by kernel_rfl) (by kernel_rfl) (fun _ _ _ h => h) (by rfl) ?hy66 (by assumption) ?rest66
            case hy66 => (intro w hSw; (try dsimp only at hSw); go_simp; try with_reducible rfl)
            case' rest66 => try simp only [Act.put, List.setIfInBounds_toArray, List.set_cons_zero, List.set_cons_succ]
            refine Drawn.take (i := 4) (d := some 33) (v := ?v67) rfl rfl (by kernel_rfl) (by kernel_rfl) (by kernel_rfl) (fun _ _ _ h => h) (by rfl) ?hy67 (by assumption) ?rest67
            case hy67 => (intro w hSw; (try dsimp only at hSw); go_simp; try with_reducible rfl)
            case' rest67 => try simp only [Act.put, List.setIfInBounds_toArray, List.set_cons_zero, List.set_cons_succ]
            refine Drawn.take (i := 5) (d := some 34) (v := ?v68) rfl rfl (by kernel_rfl) (by kernel_rfl) (by kernel_rfl) (fun _ _ _ h => h) (by rfl) ?hy68 (by assumption) ?rest68
            case hy68 => (intro w hSw; (try dsimp only at hSw); go_simp; try with_reducible rfl)
            case' rest68 => try simp only [Act.put, List.setIfInBounds_toArray, List.set_cons_zero, List.set_cons_succ]
            refine Drawn.take (i := 6) (d := some 35) (v := ?v69) rfl rfl (by kernel_rfl) (by kernel_rfl) (by kernel_rfl) (fun _ _ _ h => h) (by rfl) ?hy69 (by assumption) ?rest69
            case hy69 => (intro w hSw; (try dsimp only at hSw); go_simp; try with_reducible rfl)
            case' rest69 => try simp only [Act.put, List.setIfInBounds_toArray, List.set_cons_zero, List.set_cons_succ]
            refine Drawn.take (i := 7) (d := some 36) (v := ?v70) rfl rfl (by kernel_rfl) (by kernel_rfl) (by kernel_rfl) (fun _ _ _ h => h) (by rfl) ?hy70 (by assumption) ?rest70
            case hy70 => (intro w hSw; (try dsimp only at hSw); go_simp; try with_reducible rfl)
            case' rest70 => try simp only [Act.put, List.setIfInBounds_toArray, List.set_cons_zero, List.set_cons_succ]
            refine Drawn.take (i := 8) (d := some 37) (v := ?v71) rfl rfl (by kernel_rfl) (by kernel_rfl) (by kernel_rfl) (fun _ _ _ h => h) (by rfl) ?hy71 (by assumption) ?rest71
            case hy71 => (intro w hSw; (try dsimp only at hSw); go_simp; try with_reducible rfl)
            case' rest71 => try simp only [Act.put, List.setIfInBounds_toArray, List.set_cons_zero, List.set_cons_succ]
            refine Drawn.take (i := 9) (d := some 38) (v := ?v72) rfl rfl (by kernel_rfl) (by kernel_rfl) (by kernel_rfl) (fun _ _ _ h => h) (by rfl) ?hy72 (by assumption) ?rest72
            case hy72 => (intro w hSw; (try dsimp only at hSw); go_simp; try with_reducible rfl)
            case' rest72 => try simp only [Act.put, List.setIfInBounds_toArray, List.set_cons_zero, List.set_cons_succ]
            refine Drawn.take (i := 10) (d := some 39) (v := ?v73) rfl rfl (by kernel_rfl) (by kernel_rfl) (by kernel_rfl) (fun _ _ _ h => h) (by rfl) ?hy73 (by assumption) ?rest73
            case hy73 => (intro w hSw; (try dsimp only at hSw); go_simp; try with_reducible rfl)
            case' rest73 => try simp only [Act.put, List.setIfInBounds_toArray, List.set_cons_zero, List.set_cons_succ]
            refine Drawn.take (i := 11) (d := some 40) (v := ?v74) rfl rfl (by kernel_rfl) (by kernel_rfl) (by kernel_rfl) (fun _ _ _ h => h) (by rfl) ?hy74 (by assumption) ?rest74
            case hy74 => (intro w hSw; (try dsimp only at hSw); go_simp; try with_reducible rfl)
            case' rest74 => try simp only [Act.put, List.setIfInBounds_toArray, List.set_cons_zero, List.set_cons_succ]
            refine Drawn.take (i := 12) (d := some 41) (v := ?v75) rfl rfl (by kernel_rfl) (by kernel_rfl) (by kernel_rfl) (fun _ _ _ h => h) (by rfl) ?hy75 (by assumption) ?rest75
            case hy75 => (intro w hSw; (try dsimp only at hSw); go_simp; try with_reducible rfl)
            case' rest75 => try simp only [Act.put, List.setIfInBounds_toArray, List.set_cons_zero, List.set_cons_succ]
            refine Drawn.take (i := 13) (d := some 42) (v := ?v76) rfl rfl (by kernel_rfl) (by kernel_rfl) (by kernel_rfl) (fun _ _ _ h => h) (by rfl) ?hy76 (by assumption) ?rest76
            case hy76 => (intro w hSw; (try dsimp only at hSw); go_simp; try with_reducible rfl)
            case' rest76 => try simp only [Act.put, List.setIfInBounds_toArray, List.set_cons_zero, List.set_cons_succ]
            refine Drawn.take (i := 14) (d := some 43) (v := ?v77) rfl rfl (by kernel_rfl) (by kernel_rfl) (by kernel_rfl) (fun _ _ _ h => h) (by rfl) ?hy77 (by assumption) ?rest77
            case hy77 => (intro w hSw; (try dsimp only at hSw); go_simp; try with_reducible rfl)
            case' rest77 => try simp only [Act.put, List.setIfInBounds_toArray, List.set_cons_zero, List.set_cons_succ]
            refine Drawn.pass (i := 15) (d := some 44) rfl rfl (by kernel_rfl) (by kernel_rfl) (by kernel_rfl) (fun _ _ _ h => h) (by rfl) (by assumption) ?rest117
            case' rest117 => try simp only [Act.put, List.setIfInBounds_toArray, List.set_cons_zero, List.set_cons_succ]
            refine Drawn.pass (i := 16) (d := some 45) rfl rfl (by kernel_rfl) (by kernel_rfl) (by kernel_rfl) (fun _ _ _ h => h) (by rfl) (by assumption) ?rest118
            case' rest118 => try simp only [Act.put, List.setIfInBounds_toArray, List.set_cons_zero, List.set_cons_succ]
            refine Drawn.pass (i := 17) (d := some 46) rfl rfl (by kernel_rfl) (by kernel_rfl) (by kernel_rfl) (fun _ _ _ h => h) (by rfl) (by assumption) ?rest119
            case' rest119 => try simp only [Act.put, List.setIfInBounds_toArray, List.set_cons_zero, List.set_cons_succ]
            refine Drawn.pass (i := 18) (d := some 47) rfl rfl (by kernel_rfl) (by kernel_rfl) (by kernel_rfl) (fun _ _ _ h => h) (by rfl) (by assumption) ?rest120
            case' rest120 => try simp only [Act.put, List.setIfInBounds_toArray, List.set_cons_zero, List.set_cons_succ]
            refine Drawn.take (i := 19) (d := some 48) (v := ?v78) rfl rfl (by kernel_rfl) (by kernel_rfl) (by kernel_rfl) (fun _ _ _ h => h) (by rfl) ?hy78 (by assumption) ?rest78
            case hy78 => (intro w hSw; (try dsimp only at hSw); go_simp; try with_reducible rfl)
            case' rest78 => try simp only [Act.put, List.setIfInBounds_toArray, List.set_cons_zero, List.set_cons_succ]
            refine Drawn.take (i := 20) (d := some 49) (v := ?v79) rfl rfl (by kernel_rfl) (by kernel_rfl) (by kernel_rfl) (fun _ _ _ h => h) (by rfl) ?hy79 (by assumption) ?rest79
            case hy79 => (intro w hSw; (try dsimp only at hSw); go_simp; try with_reducible rfl)
            case' rest79 => try simp only [Act.put, List.setIfInBounds_toArray, List.set_cons_zero, List.set_cons_succ]
            refine Drawn.pass (i := 21) (d := some 50) rfl rfl (by kernel_rfl) (by kernel_rfl) (by kernel_rfl) (fun _ _ _ h => h) (by rfl) (by assumption) ?rest121
            case' rest121 => try simp only [Act.put, List.setIfInBounds_toArray, List.set_cons_zero, List.set_cons_succ]
            refine Drawn.pass (i := 22) (d := some 51) rfl rfl (by kernel_rfl) (by kernel_rfl) (by kernel_rfl) (fun _ _ _ h => h) (by rfl) (by assumption) ?rest122
            case' rest122 => try simp only [Act.put, List.setIfInBounds_toArray, List.set_cons_zero, List.set_cons_succ]
            refine Drawn.pass (i := 23) (d := some 52) rfl rfl (by kernel_rfl) (by kernel_rfl) (by kernel_rfl) (fun _ _ _ h => h) (by rfl) (by assumption) ?rest123
            case' rest123 => try simp only [Act.put, List.setIfInBounds_toArray, List.set_cons_zero, List.set_cons_succ]
            refine Drawn.pass (i := 24) (d := some 53) rfl rfl (by kernel_rfl) (by kernel_rfl) (by kernel_rfl) (fun _ _ _ h => h) (by rfl) (by assumption) ?rest124
            case' rest124 => try simp only [Act.put, List.setIfInBounds_toArray, List.set_cons_zero, List.set_cons_succ]
            refine Drawn.pass (i := 25) (d := some 54) rfl rfl (by kernel_rfl) (by kernel_rfl) (by kernel_rfl) (fun _ _ _ h => h) (by rfl) (by assumption) ?rest125
            case' rest125 => try simp only [Act.put, List.setIfInBounds_toArray, List.set_cons_zero, List.set_cons_succ]
            refine Drawn.pass (i := 26) (d := some 55) rfl rfl (by kernel_rfl) (by kernel_rfl) (by kernel_rfl) (fun _ _ _ h => h) (by rfl) (by assumption) ?rest126
            case' rest126 => try simp only [Act.put, List.setIfInBounds_toArray, List.set_cons_zero, List.set_cons_succ]
            refine Drawn.take (i := 27) (d := some 56) (v := ?v80) rfl rfl (by kernel_rfl) (by kernel_rfl) (by kernel_rfl) (fun _ _ _ h => h) (by rfl) ?hy80 (by assumption) ?rest80
            case hy80 => (intro w hSw; (try dsimp only at hSw); go_simp; try with_reducible rfl)
            case' rest80 => try simp only [Act.put, List.setIfInBounds_toArray, List.set_cons_zero, List.set_cons_succ]
            refine wpAnyH_done (by kernel_rfl) ?_ _
            go_wp2
            go_ret
            exact ⟨ret_bool (by rw [hall0.out]; simp [hno.out (rme_locals HL0.out)]), hbw.trans (hbW.mono hbs)⟩
        · have hst0 : (t.stack != 0) = true := by simpa using hs0
          have HS0 := Lib.hid hs0
          clear hs0
          refine wp_region_held_drew (S := fun w' => (w'.cell? ⟨w.heap.size, 0, none⟩ = some vc ∧ w'.cell? ⟨w.heap.size, 1, none⟩ = some (.slice (some ⟨b, o, none⟩) f.methods.length mcap)) ∧ w'.cell? ⟨wr.heap.size, 0, none⟩ = some (.slice pa t.params.length pcap) ∧ w'.cell? ⟨wr.heap.size, 1, none⟩ = some (.int .i64 t.ret.kind) ∧ w'.cell? ⟨wr.heap.size, 2, none⟩ = some (.int .i64 t.ret.cls) ∧ w'.cell? ⟨wr.heap.size, 3, none⟩ = some (.int .i64 t.stack) ∧ w'.cell? ⟨wr.heap.size, 4, none⟩ = some (.int .i64 t.locals) ∧ w'.cell? ⟨wr.heap.size, 5, none⟩ = some (.int .i64 t.regs) ∧ w'.cell? ⟨wr.heap.size, 6, none⟩ = some (.slice da t.code.length dcap) ∧ w'.cell? ⟨wr.heap.size, 7, none⟩ = some (.slice ha t.handlers.length hcap)) (by kernel_rfl) (by (try dsimp only); first | exact ⟨⟨f1, f2⟩, m0, m1, m2, m3, m4, m5, m6, m7⟩ | go_keep) (fun hHeld => ?_)
          refine Drawn.take (i := 0) (d := some 29) (v := ?v81) rfl rfl (by kernel_rfl) (by kernel_rfl) (by kernel_rfl) (fun _ _ _ h => h) (by rfl) ?hy81 (by assumption) ?rest81
          case hy81 => (intro w hSw; (try dsimp only at hSw); go_simp; try with_reducible rfl)
          case' rest81 => try simp only [Act.put, List.setIfInBounds_toArray, List.set_cons_zero, List.set_cons_succ]
          refine Drawn.take (i := 1) (d := some 30) (v := ?v82) rfl rfl (by kernel_rfl) (by kernel_rfl) (by kernel_rfl) (fun _ _ _ h => h) (by rfl) ?hy82 (by assumption) ?rest82
          case hy82 => (intro w hSw; (try dsimp only at hSw); go_simp; try with_reducible rfl)
          case' rest82 => try simp only [Act.put, List.setIfInBounds_toArray, List.set_cons_zero, List.set_cons_succ]
          refine wpAnyH_ready (rs := [2]) (by kernel_rfl) (by simp) ?_
          refine AllReadyH.cons rfl (fun K hK => ?_) AllReadyH.nil
          go_simp
          go_at_call 49
          refine (FormR.headV f t 2400 _ _ _ _ hph.out (hfW.mono (by repeat' (first | with_reducible exact Below.refl _ _ | with_reducible assumption | exact Nat.le_refl _ | with_reducible refine Go.Proofs.Ytncmhenfgbcihaa.Rd.below_drewN ?_ _ | with_reducible refine Below.alloc ?_ ?_ _ | with_reducible refine Below.setCell ?_ ?_ _ | with_reducible refine Below.drew ?_ | omega | (simp; omega) | (simp; done))) (by simp)) (hmW.mono (by repeat' (first | with_reducible exact Below.refl _ _ | with_reducible assumption | exact Nat.le_refl _ | with_reducible refine Go.Proofs.Ytncmhenfgbcihaa.Rd.below_drewN ?_ _ | with_reducible refine Below.alloc ?_ ?_ _ | with_reducible refine Below.setCell ?_ ?_ _ | with_reducible refine Below.drew ?_ | omega | (simp; omega) | (simp; done))) (by simp)) (by omega)).mono ?_
          rintro e w2 ⟨rfl, hb2⟩
          have hbW : Below W.heap.size W w2 := Below.trans (by repeat' (first | with_reducible exact Below.refl _ _ | with_reducible assumption | exact Nat.le_refl _ | with_reducible refine Go.Proofs.Ytncmhenfgbcihaa.Rd.below_drewN ?_ _ | with_reducible refine Below.alloc ?_ ?_ _ | with_reducible refine Below.setCell ?_ ?_ _ | with_reducible refine Below.drew ?_ | omega | (simp; omega) | (simp; done))) (hb2.mono (by simp))
          have k2 := B2.next ⟨f1, f2⟩ hbW (by omega)
          have k8 := B8.next ⟨m0, m1, m2, m3, m4, m5, m6, m7⟩ hbW (by omega)
          go_wp2_with fail
          refine hK.out _ _ (by (try dsimp only); exact ⟨k2, k8⟩) (fun hHeld => ?_)
          clear hK K
          try simp only [Act.put, List.setIfInBounds_toArray, List.set_cons_zero, List.set_cons_succ]
          refine Drawn.take (i := 3) (d := some 32) (v := ?v83) rfl rfl (by kernel_rfl) (by kernel_rfl) (by kernel_rfl) (fun _ _ _ h => h) (by rfl) ?hy83 (by assumption) ?rest83
          case hy83 => (intro w hSw; (try dsimp only at hSw); go_simp; try with_reducible rfl)
          case' rest83 => try simp only [Act.put, List.setIfInBounds_toArray, List.set_cons_zero, List.set_cons_succ]
          refine Drawn.take (i := 4) (d := some 33) (v := ?v84) rfl rfl (by kernel_rfl) (by kernel_rfl) (by kernel_rfl) (fun _ _ _ h => h) (by rfl) ?hy84 (by assumption) ?rest84
          case hy84 => (intro w hSw; (try dsimp only at hSw); go_simp; try with_reducible rfl)
          case' rest84 => try simp only [Act.put, List.setIfInBounds_toArray, List.set_cons_zero, List.set_cons_succ]
          refine Drawn.take (i := 5) (d := some 34) (v := ?v85) rfl rfl (by kernel_rfl) (by kernel_rfl) (by kernel_rfl) (fun _ _ _ h => h) (by rfl) ?hy85 (by assumption) ?rest85
          case hy85 => (intro w hSw; (try dsimp only at hSw); go_simp; try with_reducible rfl)
          case' rest85 => try simp only [Act.put, List.setIfInBounds_toArray, List.set_cons_zero, List.set_cons_succ]
          refine Drawn.take (i := 6) (d := some 35) (v := ?v86) rfl rfl (by kernel_rfl) (by kernel_rfl) (by kernel_rfl) (fun _ _ _ h => h) (by rfl) ?hy86 (by assumption) ?rest86
          case hy86 => (intro w hSw; (try dsimp only at hSw); go_simp; try with_reducible rfl)
          case' rest86 => try simp only [Act.put, List.setIfInBounds_toArray, List.set_cons_zero, List.set_cons_succ]
          refine Drawn.take (i := 7) (d := some 36) (v := ?v87) rfl rfl (by kernel_rfl) (by kernel_rfl) (by kernel_rfl) (fun _ _ _ h => h) (by rfl) ?hy87 (by assumption) ?rest87
          case hy87 => (intro w hSw; (try dsimp only at hSw); go_simp; try with_reducible rfl)
          case' rest87 => try simp only [Act.put, List.setIfInBounds_toArray, List.set_cons_zero, List.set_cons_succ]
          refine Drawn.take (i := 8) (d := some 37) (v := ?v88) rfl rfl (by kernel_rfl) (by kernel_rfl) (by kernel_rfl) (fun _ _ _ h => h) (by rfl) ?hy88 (by assumption) ?rest88
          case hy88 => (intro w hSw; (try dsimp only at hSw); go_simp; try with_reducible rfl)
          case' rest88 => try simp only [Act.put, List.setIfInBounds_toArray, List.set_cons_zero, List.set_cons_succ]
          refine Drawn.take (i := 9) (d := some 38) (v := ?v89) rfl rfl (by kernel_rfl) (by kernel_rfl) (by kernel_rfl) (fun _ _ _ h => h) (by rfl) ?hy89 (by assumption) ?rest89
          case hy89 => (intro w hSw; (try dsimp only at hSw); go_simp; try with_reducible rfl)
          case' rest89 => try simp only [Act.put, List.setIfInBounds_toArray, List.set_cons_zero, List.set_cons_succ]
          refine Drawn.pass (i := 10) (d := some 39) rfl rfl (by kernel_rfl) (by kernel_rfl) (by kernel_rfl) (fun _ _ _ h => h) (by rfl) (by assumption) ?rest127
          case' rest127 => try simp only [Act.put, List.setIfInBounds_toArray, List.set_cons_zero, List.set_cons_succ]
          refine Drawn.pass (i := 11) (d := some 40) rfl rfl (by kernel_rfl) (by kernel_rfl) (by kernel_rfl) (fun _ _ _ h => h) (by rfl) (by assumption) ?rest128
          case' rest128 => try simp only [Act.put, List.setIfInBounds_toArray, List.set_cons_zero, List.set_cons_succ]
          refine Drawn.pass (i := 12) (d := some 41) rfl rfl (by kernel_rfl) (by kernel_rfl) (by kernel_rfl) (fun _ _ _ h => h) (by rfl) (by assumption) ?rest129
          case' rest129 => try simp only [Act.put, List.setIfInBounds_toArray, List.set_cons_zero, List.set_cons_succ]
          refine Drawn.take (i := 13) (d := some 42) (v := ?v90) rfl rfl (by kernel_rfl) (by kernel_rfl) (by kernel_rfl) (fun _ _ _ h => h) (by rfl) ?hy90 (by assumption) ?rest90
          case hy90 => (intro w hSw; (try dsimp only at hSw); go_simp; try with_reducible rfl)
          case' rest90 => try simp only [Act.put, List.setIfInBounds_toArray, List.set_cons_zero, List.set_cons_succ]
          refine Drawn.take (i := 14) (d := some 43) (v := ?v91) rfl rfl (by kernel_rfl) (by kernel_rfl) (by kernel_rfl) (fun _ _ _ h => h) (by rfl) ?hy91 (by assumption) ?rest91
          case hy91 => (intro w hSw; (try dsimp only at hSw); go_simp; try with_reducible rfl)
          case' rest91 => try simp only [Act.put, List.setIfInBounds_toArray, List.set_cons_zero, List.set_cons_succ]
          refine Drawn.pass (i := 15) (d := some 44) rfl rfl (by kernel_rfl) (by kernel_rfl) (by kernel_rfl) (fun _ _ _ h => h) (by rfl) (by assumption) ?rest130
          case' rest130 => try simp only [Act.put, List.setIfInBounds_toArray, List.set_cons_zero, List.set_cons_succ]
          refine Drawn.pass (i := 16) (d := some 45) rfl rfl (by kernel_rfl) (by kernel_rfl) (by kernel_rfl) (fun _ _ _ h => h) (by rfl) (by assumption) ?rest131
          case' rest131 => try simp only [Act.put, List.setIfInBounds_toArray, List.set_cons_zero, List.set_cons_succ]
          refine Drawn.pass (i := 17) (d := some 46) rfl rfl (by kernel_rfl) (by kernel_rfl) (by kernel_rfl) (fun _ _ _ h => h) (by rfl) (by assumption) ?rest132
          case' rest132 => try simp only [Act.put, List.setIfInBounds_toArray, List.set_cons_zero, List.set_cons_succ]
          refine Drawn.pass (i := 18) (d := some 47) rfl rfl (by kernel_rfl) (by kernel_rfl) (by kernel_rfl) (fun _ _ _ h => h) (by rfl) (by assumption) ?rest133
          case' rest133 => try simp only [Act.put, List.setIfInBounds_toArray, List.set_cons_zero, List.set_cons_succ]
          refine Drawn.take (i := 19) (d := some 48) (v := ?v92) rfl rfl (by kernel_rfl) (by kernel_rfl) (by kernel_rfl) (fun _ _ _ h => h) (by rfl) ?hy92 (by assumption) ?rest92
          case hy92 => (intro w hSw; (try dsimp only at hSw); go_simp; try with_reducible rfl)
          case' rest92 => try simp only [Act.put, List.setIfInBounds_toArray, List.set_cons_zero, List.set_cons_succ]
          refine Drawn.take (i := 20) (d := some 49) (v := ?v93) rfl rfl (by kernel_rfl) (by kernel_rfl) (by kernel_rfl) (fun _ _ _ h => h) (by rfl) ?hy93 (by assumption) ?rest93
          case hy93 => (intro w hSw; (try dsimp only at hSw); go_simp; try with_reducible rfl)
          case' rest93 => try simp only [Act.put, List.setIfInBounds_toArray, List.set_cons_zero, List.set_cons_succ]
          refine Drawn.pass (i := 21) (d := some 50) rfl rfl (by kernel_rfl) (by kernel_rfl) (by kernel_rfl) (fun _ _ _ h => h) (by rfl) (by assumption) ?rest134
          case' rest134 => try simp only [Act.put, List.setIfInBounds_toArray, List.set_cons_zero, List.set_cons_succ]
          refine Drawn.pass (i := 22) (d := some 51) rfl rfl (by kernel_rfl) (by kernel_rfl) (by kernel_rfl) (fun _ _ _ h => h) (by rfl) (by assumption) ?rest135
          case' rest135 => try simp only [Act.put, List.setIfInBounds_toArray, List.set_cons_zero, List.set_cons_succ]
          refine Drawn.pass (i := 23) (d := some 52) rfl rfl (by kernel_rfl) (by kernel_rfl) (by kernel_rfl) (fun _ _ _ h => h) (by rfl) (by assumption) ?rest136
          case' rest136 => try simp only [Act.put, List.setIfInBounds_toArray, List.set_cons_zero, List.set_cons_succ]
          refine Drawn.pass (i := 24) (d := some 53) rfl rfl (by kernel_rfl) (by kernel_rfl) (by kernel_rfl) (fun _ _ _ h => h) (by rfl) (by assumption) ?rest137
          case' rest137 => try simp only [Act.put, List.setIfInBounds_toArray, List.set_cons_zero, List.set_cons_succ]
          refine Drawn.pass (i := 25) (d := some 54) rfl rfl (by kernel_rfl) (by kernel_rfl) (by kernel_rfl) (fun _ _ _ h => h) (by rfl) (by assumption) ?rest138
          case' rest138 => try simp only [Act.put, List.setIfInBounds_toArray, List.set_cons_zero, List.set_cons_succ]
          refine Drawn.pass (i := 26) (d := some 55) rfl rfl (by kernel_rfl) (by kernel_rfl) (by kernel_rfl) (fun _ _ _ h => h) (by rfl) (by assumption) ?rest139
          case' rest139 => try simp only [Act.put, List.setIfInBounds_toArray, List.set_cons_zero, List.set_cons_succ]
          refine Drawn.take (i := 27) (d := some 56) (v := ?v94) rfl rfl (by kernel_rfl) (by kernel_rfl) (by kernel_rfl) (fun _ _ _ h => h) (by rfl) ?hy94 (by assumption) ?rest94
          case hy94 => (intro w hSw; (try dsimp only at hSw); go_simp; try with_reducible rfl)
          case' rest94 => try simp only [Act.put, List.setIfInBounds_toArray, List.set_cons_zero, List.set_cons_succ]
          refine wpAnyH_done (by kernel_rfl) ?_ _
          go_wp2
          go_ret
          exact ⟨ret_bool (by rw [hall0.out]; simp [hno.out (rme_stack HS0.out)]), hbw.trans (hbW.mono hbs)⟩
    · have hst := Lib.hid (Form.all_of (p := Rform.rme f) (fun j hj => hall.out j hj (by omega)))
      clear hall mel
      go_wp2_with fail
      go_ret
      exact ⟨ret_bool (by rw [hall0.out, hst.out]; rfl), hwr⟩
end RefG
end Go.Proofs.Ytncmhenfgbcihaa
