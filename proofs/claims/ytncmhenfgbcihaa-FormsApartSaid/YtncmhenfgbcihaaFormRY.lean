/- The walk through crosswalkref3.May. -/
import Derived.Test.YtncmhenfgbcihaaFormRH
import Derived.Test.YtncmhenfgbcihaaFormRI
import Derived.Test.YtncmhenfgbcihaaFormM
namespace Go.Proofs.Ytncmhenfgbcihaa
open Go.RowKit
set_option linter.unusedSimpArgs false
set_option linter.unusedVariables false
namespace FormR
open Num Rd D HierW FormW

theorem headV (f : Fi) (m : Me) (most : Int) (p : Bool) (vf vm : Value) (w : World) (hp : Form.head f.classes.length m most = p) (hf : VFi w w.heap.size vf f) (hm : VMe w w.heap.size vm m) (hmost : 0 ≤ most ∧ most ≤ 100000) :
    Calls Try.prog 49 #[vf, vm, .int .i64 most] w fun e w' => e = .returned (.bool p) ∧ Below w.heap.size w w' := by
  subst hp; exact head f m most vf vm w hf hm hmost
theorem insV (f : Fi) (m : Me) (i : Ins) (p : Bool) (vf vm vi : Value) (w : World) (hp : Form.sins f.classes f.methods.length m.code.length m.locals i = p) (hf : VFi w w.heap.size vf f) (hm : VMe w w.heap.size vm m) (hi : VIns w w.heap.size vi i) (hloc : 0 ≤ m.locals ∧ m.locals ≤ 60) :
    Calls Try.prog 51 #[vf, vm, vi] w fun e w' => e = .returned (.bool p) ∧ Below w.heap.size w w' := by
  subst hp; exact ins f m i vf vm vi w hf hm hi hloc
theorem rmayV (v : Value) (l : List Cls) (p : Bool) (w : World) (hp : Hier.may l = p) (h : Cs w v l) : Calls Try.prog 19 #[v] w fun e w' => e = .returned (.bool p) ∧ Below w.heap.size w w' := by
  subst hp; exact rmay v l w h

/-- the first of what a method must be: its head -/
theorem sme_head {f : Fi} {m : Me} (h : Form.head f.classes.length m 400 = false) : Form.sme f m = false := by simp [Form.sme, h]
theorem sme_regs {f : Fi} {m : Me} (h : m.regs ≠ 0) : Form.sme f m = false := by simp [Form.sme, h]
theorem sme_stack {f : Fi} {m : Me} (h : Form.rng m.stack 0 31 = false) : Form.sme f m = false := by simp [Form.sme, h]
theorem sme_locals {f : Fi} {m : Me} (h : Form.rng m.locals (Form.slots m.params) 61 = false) : Form.sme f m = false := by simp [Form.sme, h]
theorem sme_ins {f : Fi} {m : Me} {k : Nat} (hk : k < m.code.length) (h : Form.sins f.classes f.methods.length m.code.length m.locals m.code[k] = false) : Form.sme f m = false := by
  simp [Form.sme, Form.all_not hk h]
theorem sme_yes {f : Fi} {m : Me} (h1 : Form.head f.classes.length m 400 = true) (h2 : m.regs = 0) (h3 : Form.rng m.stack 0 31 = true) (h4 : Form.rng m.locals (Form.slots m.params) 61 = true)
    (h5 : ∀ j (h : j < m.code.length), Form.sins f.classes f.methods.length m.code.length m.locals m.code[j] = true) : Form.sme f m = true := by
  have := Form.all_of h5
  simp [Form.sme, h1, h2, h3, h4, this]

set_option maxRecDepth 100000 in
set_option maxHeartbeats 8000000 in
theorem smay (f : Fi) (vf : Value) (w : World) (hf : VFi w w.heap.size vf f) :
    Calls Try.prog 30 #[vf] w fun e w' => e = .returned (.bool (Form.smay f)) ∧ Below w.heap.size w w' := by
  have hf0 := hf
  obtain ⟨vc, vme, rfl, hcs, ⟨ma, mcap, rfl, mlc, mcc, mel⟩⟩ := hf
  obtain ⟨ph, hph⟩ : ∃ p, Hid (Hier.may f.classes = p) := ⟨_, rfl⟩
  obtain ⟨pn, hpn⟩ : ∃ p, Hid (within f.methods.length 1 8 = p) := ⟨_, rfl⟩
  have hall0 : Hid (Form.smay f = (ph && pn && f.methods.all (Form.sme f))) := by
    show _ = _
    rw [← hph.out, ← hpn.out, within_rng]; rfl
  cases ph <;> cases pn
  all_goals go_enter Try.func30, Try.ntmps30
  all_goals go_wp2_with (first
    | (go_at_call 19; refine (rmayV _ _ _ _ hph.out (Cs.next hcs (by repeat' (first | with_reducible exact Below.refl _ _ | with_reducible assumption | exact Nat.le_refl _ | with_reducible refine Go.Proofs.Ytncmhenfgbcihaa.Rd.below_drewN ?_ _ | with_reducible refine Below.alloc ?_ ?_ _ | with_reducible refine Below.setCell ?_ ?_ _ | with_reducible refine Below.drew ?_ | omega | (simp; omega) | (simp; done))))).mono ?_; rintro e w1 ⟨rfl, hb1⟩; have hw1 : Below w.heap.size w w1 := Below.trans (by repeat' (first | with_reducible exact Below.refl _ _ | with_reducible assumption | exact Nat.le_refl _ | with_reducible refine Go.Proofs.Ytncmhenfgbcihaa.Rd.below_drewN ?_ _ | with_reducible refine Below.alloc ?_ ?_ _ | with_reducible refine Below.setCell ?_ ?_ _ | with_reducible refine Below.drew ?_ | omega | (simp; omega) | (simp; done))) (hb1.mono (by simp)); have y0 : w1.cell? ⟨w.heap.size, 0, none⟩ = some vc := kept hb1 (by simp) (by go_simp); have y1 : w1.cell? ⟨w.heap.size, 1, none⟩ = some (.slice ma f.methods.length mcap) := kept hb1 (by simp) (by go_simp))
    | (go_at_call 48; refine (wiV _ _ _ _ _ hpn.out).mono ?_; rintro e w2 ⟨rfl, rfl⟩))
  all_goals first
    | (go_ret
       exact ⟨ret_bool (by rw [hall0.out]; simp), hw1⟩)
    | skip
  have hws := hw1.size
  have nn : w.heap.size < w1.heap.size := by have := lt_cell y0; omega
  go_loopw [3] (fun i wr => ∃ k : Nat, k ≤ f.methods.length ∧ i = .int .i64 k ∧ Below w1.heap.size w1 wr ∧ Hid (∀ j (h : j < f.methods.length), j < k → Form.sme f f.methods[j] = true)) (fun i _ => f.methods.length - (intOf i).toNat)
  case atStart => exact ⟨0, by omega, rfl, (by repeat' (first | with_reducible exact Below.refl _ _ | with_reducible assumption | exact Nat.le_refl _ | with_reducible refine Go.Proofs.Ytncmhenfgbcihaa.Rd.below_drewN ?_ _ | with_reducible refine Below.alloc ?_ ?_ _ | with_reducible refine Below.setCell ?_ ?_ _ | with_reducible refine Below.drew ?_ | omega | (simp; omega) | (simp; done))), fun j _ h => absurd h (by omega)⟩
  case round =>
    obtain ⟨k, hk, rfl, hq, hall⟩ := hrel
    have hqs := hq.size
    have hwr : Below w.heap.size w wr := hw1.trans (hq.mono hws)
    have hwrs := hwr.size
    have n3 : w.heap.size < wr.heap.size := by omega
    have c1 := kept hq (by omega) y0
    have c2 := kept hq (by omega) y1
    clear y0 y1
    by_cases hlt : k < f.methods.length
    · obtain ⟨b, o, rfl, hb, he⟩ := mel k hlt
      have hyes := Lib.hid (Form.all_step (p := Form.sme f) hall.out hlt)
      have hno := Lib.hid (Form.all_not (p := Form.sme f) hlt)
      obtain ⟨t, ht⟩ := at_of hlt
      rw [ht.out] at he hyes hno
      obtain ⟨vp, vd, vh, g0, g1, g2, g3, g4, g5, g6, g7, oks, s1, s2, s3⟩ := he
      have hvm : VMe w w.heap.size (.agg #[vp, .int .i64 t.ret.kind, .int .i64 t.ret.cls, .int .i64 t.stack, .int .i64 t.locals, .int .i64 t.regs, vd, vh]) t := ⟨vp, vd, vh, rfl, oks, s1, s2, s3⟩
      obtain ⟨pa, pcap, rfl, plc, pcc, pel⟩ := s1
      have hts0 : Ts w (.slice pa t.params.length pcap) t.params := ⟨pa, pcap, rfl, plc, pcc, pel⟩
      clear pel
      obtain ⟨da, dcap, rfl, dlc, dcc, del⟩ := s2
      obtain ⟨ha, hcap, rfl, _, _, _⟩ := s3
      have k0 := kept hwr hb g0
      have k1 := kept hwr hb g1
      have k2 := kept hwr hb g2
      have k3 := kept hwr hb g3
      have k4 := kept hwr hb g4
      have k5 := kept hwr hb g5
      have k6 := kept hwr hb g6
      have k7 := kept hwr hb g7
      have hq2 := Lib.hid hq
      have hwr2 := Lib.hid hwr
      have ok5 := oks.2.2.2.2
      have ok4 := oks.2.2.2.1
      unfold Ok at ok5 ok4
      clear g0 g1 g2 g3 g4 g5 g6 g7 oks
      go_wp2_with fail
      refine name_world (fun W => Below w.heap.size w W ∧ Below wr.heap.size wr W ∧ wr.heap.size + 1 ≤ W.heap.size ∧ B2 W w.heap.size vc (.slice (some ⟨b, o, none⟩) f.methods.length mcap) ∧ B8 W wr.heap.size (.slice pa t.params.length pcap) (.int .i64 t.ret.kind) (.int .i64 t.ret.cls) (.int .i64 t.stack) (.int .i64 t.locals) (.int .i64 t.regs) (.slice da t.code.length dcap) (.slice ha t.handlers.length hcap)) ?_ ?_
      · refine ⟨(by repeat' (first | with_reducible exact Below.refl _ _ | with_reducible assumption | exact Nat.le_refl _ | with_reducible refine Go.Proofs.Ytncmhenfgbcihaa.Rd.below_drewN ?_ _ | with_reducible refine Below.alloc ?_ ?_ _ | with_reducible refine Below.setCell ?_ ?_ _ | with_reducible refine Below.drew ?_ | omega | (simp; omega) | (simp; done))), (by repeat' (first | with_reducible exact Below.refl _ _ | with_reducible assumption | exact Nat.le_refl _ | with_reducible refine Go.Proofs.Ytncmhenfgbcihaa.Rd.below_drewN ?_ _ | with_reducible refine Below.alloc ?_ ?_ _ | with_reducible refine Below.setCell ?_ ?_ _ | with_reducible refine Below.drew ?_ | omega | (simp; omega) | (simp; done))), ?_, ⟨?_, ?_⟩, ⟨?_, ?_, ?_, ?_, ?_, ?_, ?_, ?_⟩⟩
        all_goals go_simp
      rintro W ⟨hbw, hbr, hsz, ⟨f1, f2⟩, ⟨m0, m1, m2, m3, m4, m5, m6, m7⟩⟩
      have hbs := hbw.size
      have hfW := hf0.mono hbw hbs
      have hmW := hvm.mono hbw hbs
      have htW := hts0.next hbw
      clear c1 c2 k0 k1 k2 k3 k4 k5 k6 k7 mel
      obtain ⟨ph, hph⟩ : ∃ p, Hid (Form.head f.classes.length t 400 = p) := ⟨_, rfl⟩
      obtain ⟨pst, hps⟩ : ∃ p, Hid (within t.stack 0 30 = p) := ⟨_, rfl⟩
      obtain ⟨Z, hS⟩ : ∃ S, Hid (Form.slots t.params = S) := ⟨_, rfl⟩
      obtain ⟨pl, hpl⟩ : ∃ p, Hid (within t.locals Z 60 = p) := ⟨_, rfl⟩
      cases ph
      ·
        refine wp_region_held_drew (S := fun w' => (w'.cell? ⟨w.heap.size, 0, none⟩ = some vc ∧ w'.cell? ⟨w.heap.size, 1, none⟩ = some (.slice (some ⟨b, o, none⟩) f.methods.length mcap)) ∧ w'.cell? ⟨wr.heap.size, 0, none⟩ = some (.slice pa t.params.length pcap) ∧ w'.cell? ⟨wr.heap.size, 1, none⟩ = some (.int .i64 t.ret.kind) ∧ w'.cell? ⟨wr.heap.size, 2, none⟩ = some (.int .i64 t.ret.cls) ∧ w'.cell? ⟨wr.heap.size, 3, none⟩ = some (.int .i64 t.stack) ∧ w'.cell? ⟨wr.heap.size, 4, none⟩ = some (.int .i64 t.locals) ∧ w'.cell? ⟨wr.heap.size, 5, none⟩ = some (.int .i64 t.regs) ∧ w'.cell? ⟨wr.heap.size, 6, none⟩ = some (.slice da t.code.length dcap) ∧ w'.cell? ⟨wr.heap.size, 7, none⟩ = some (.slice ha t.handlers.length hcap)) (by kernel_rfl) (by (try dsimp only); first | exact ⟨⟨f1, f2⟩, m0, m1, m2, m3, m4, m5, m6, m7⟩ | go_keep) (fun hHeld => ?_)
        refine Drawn.take (i := 0) (d := some 29) (v := ?v0) rfl rfl (by kernel_rfl) (by kernel_rfl) (by kernel_rfl) (fun _ _ _ h => h) (by rfl) ?hy0 (by assumption) ?rest0
        case hy0 => (intro w hSw; (try dsimp only at hSw); go_simp; try with_reducible rfl)
        case' rest0 => try simp only [Act.put, List.setIfInBounds_toArray, List.set_cons_zero, List.set_cons_succ]
        refine Drawn.take (i := 1) (d := some 30) (v := ?v1) rfl rfl (by kernel_rfl) (by kernel_rfl) (by kernel_rfl) (fun _ _ _ h => h) (by rfl) ?hy1 (by assumption) ?rest1
        case hy1 => (intro w hSw; (try dsimp only at hSw); go_simp; try with_reducible rfl)
        case' rest1 => try simp only [Act.put, List.setIfInBounds_toArray, List.set_cons_zero, List.set_cons_succ]
        refine wpAnyH_ready (rs := [2]) (by kernel_rfl) (by simp) ?_
        refine AllReadyH.cons rfl (fun K hK => ?_) AllReadyH.nil
        go_simp
        go_at_call 49
        refine (headV f t 400 _ _ _ _ hph.out (hfW.mono (by repeat' (first | with_reducible exact Below.refl _ _ | with_reducible assumption | exact Nat.le_refl _ | with_reducible refine Go.Proofs.Ytncmhenfgbcihaa.Rd.below_drewN ?_ _ | with_reducible refine Below.alloc ?_ ?_ _ | with_reducible refine Below.setCell ?_ ?_ _ | with_reducible refine Below.drew ?_ | omega | (simp; omega) | (simp; done))) (by simp)) (hmW.mono (by repeat' (first | with_reducible exact Below.refl _ _ | with_reducible assumption | exact Nat.le_refl _ | with_reducible refine Go.Proofs.Ytncmhenfgbcihaa.Rd.below_drewN ?_ _ | with_reducible refine Below.alloc ?_ ?_ _ | with_reducible refine Below.setCell ?_ ?_ _ | with_reducible refine Below.drew ?_ | omega | (simp; omega) | (simp; done))) (by simp)) (by omega)).mono ?_
        rintro e w2 ⟨rfl, hb2⟩
        have hbW : Below W.heap.size W w2 := Below.trans (by repeat' (first | with_reducible exact Below.refl _ _ | with_reducible assumption | exact Nat.le_refl _ | with_reducible refine Go.Proofs.Ytncmhenfgbcihaa.Rd.below_drewN ?_ _ | with_reducible refine Below.alloc ?_ ?_ _ | with_reducible refine Below.setCell ?_ ?_ _ | with_reducible refine Below.drew ?_ | omega | (simp; omega) | (simp; done))) (hb2.mono (by simp))
        have k2 := B2.next ⟨f1, f2⟩ hbW (by omega)
        have k8 := B8.next ⟨m0, m1, m2, m3, m4, m5, m6, m7⟩ hbW (by omega)
        go_wp2_with fail
        refine hK.out _ _ (by (try dsimp only); exact ⟨k2, k8⟩) (fun hHeld => ?_)
        clear hK K
        try simp only [Act.put, List.setIfInBounds_toArray, List.set_cons_zero, List.set_cons_succ]
        refine Drawn.take (i := 3) (d := some 32) (v := ?v2) rfl rfl (by kernel_rfl) (by kernel_rfl) (by kernel_rfl) (fun _ _ _ h => h) (by rfl) ?hy2 (by assumption) ?rest2
        case hy2 => (intro w hSw; (try dsimp only at hSw); go_simp; try with_reducible rfl)
        case' rest2 => try simp only [Act.put, List.setIfInBounds_toArray, List.set_cons_zero, List.set_cons_succ]
        refine Drawn.take (i := 4) (d := some 33) (v := ?v3) rfl rfl (by kernel_rfl) (by kernel_rfl) (by kernel_rfl) (fun _ _ _ h => h) (by rfl) ?hy3 (by assumption) ?rest3
        case hy3 => (intro w hSw; (try dsimp only at hSw); go_simp; try with_reducible rfl)
        case' rest3 => try simp only [Act.put, List.setIfInBounds_toArray, List.set_cons_zero, List.set_cons_succ]
        refine Drawn.pass (i := 5) (d := some 34) rfl rfl (by kernel_rfl) (by kernel_rfl) (by kernel_rfl) (fun _ _ _ h => h) (by rfl) (by assumption) ?rest64
        case' rest64 => try simp only [Act.put, List.setIfInBounds_toArray, List.set_cons_zero, List.set_cons_succ]
        refine Drawn.pass (i := 6) (d := some 35) rfl rfl (by kernel_rfl) (by kernel_rfl) (by kernel_rfl) (fun _ _ _ h => h) (by rfl) (by assumption) ?rest65
        case' rest65 => try simp only [Act.put, List.setIfInBounds_toArray, List.set_cons_zero, List.set_cons_succ]
        refine Drawn.pass (i := 7) (d := some 36) rfl rfl (by kernel_rfl) (by kernel_rfl) (by kernel_rfl) (fun _ _ _ h => h) (by rfl) (by assumption) ?rest66
        case' rest66 => try simp only [Act.put, List.setIfInBounds_toArray, List.set_cons_zero, List.set_cons_succ]
        refine Drawn.take (i := 8) (d := some 37) (v := ?v4) rfl rfl (by kernel_rfl) (by kernel_rfl) (by kernel_rfl) (fun _ _ _ h => h) (by rfl) ?hy4 (by assumption) ?rest4
        case hy4 => (intro w hSw; (try dsimp only at hSw); go_simp; try with_reducible rfl)
        case' rest4 => try simp only [Act.put, List.setIfInBounds_toArray, List.set_cons_zero, List.set_cons_succ]
        refine Drawn.take (i := 9) (d := some 38) (v := ?v5) rfl rfl (by kernel_rfl) (by kernel_rfl) (by kernel_rfl) (fun _ _ _ h => h) (by rfl) ?hy5 (by assumption) ?rest5
        case hy5 => (intro w hSw; (try dsimp only at hSw); go_simp; try with_reducible rfl)
        case' rest5 => try simp only [Act.put, List.setIfInBounds_toArray, List.set_cons_zero, List.set_cons_succ]
        refine Drawn.pass (i := 10) (d := some 39) rfl rfl (by kernel_rfl) (by kernel_rfl) (by kernel_rfl) (fun _ _ _ h => h) (by rfl) (by assumption) ?rest67
        case' rest67 => try simp only [Act.put, List.setIfInBounds_toArray, List.set_cons_zero, List.set_cons_succ]
        refine Drawn.pass (i := 11) (d := some 40) rfl rfl (by kernel_rfl) (by kernel_rfl) (by kernel_rfl) (fun _ _ _ h => h) (by rfl) (by assumption) ?rest68
        case' rest68 => try simp only [Act.put, List.setIfInBounds_toArray, List.set_cons_zero, List.set_cons_succ]
        refine Drawn.pass (i := 12) (d := some 41) rfl rfl (by kernel_rfl) (by kernel_rfl) (by kernel_rfl) (fun _ _ _ h => h) (by rfl) (by assumption) ?rest69
        case' rest69 => try simp only [Act.put, List.setIfInBounds_toArray, List.set_cons_zero, List.set_cons_succ]
        refine Drawn.pass (i := 13) (d := some 42) rfl rfl (by kernel_rfl) (by kernel_rfl) (by kernel_rfl) (fun _ _ _ h => h) (by rfl) (by assumption) ?rest70
        case' rest70 => try simp only [Act.put, List.setIfInBounds_toArray, List.set_cons_zero, List.set_cons_succ]
        refine Drawn.take (i := 14) (d := some 43) (v := ?v6) rfl rfl (by kernel_rfl) (by kernel_rfl) (by kernel_rfl) (fun _ _ _ h => h) (by rfl) ?hy6 (by assumption) ?rest6
        case hy6 => (intro w hSw; (try dsimp only at hSw); go_simp; try with_reducible rfl)
        case' rest6 => try simp only [Act.put, List.setIfInBounds_toArray, List.set_cons_zero, List.set_cons_succ]
        refine Drawn.take (i := 15) (d := some 44) (v := ?v7) rfl rfl (by kernel_rfl) (by kernel_rfl) (by kernel_rfl) (fun _ _ _ h => h) (by rfl) ?hy7 (by assumption) ?rest7
        case hy7 => (intro w hSw; (try dsimp only at hSw); go_simp; try with_reducible rfl)
        case' rest7 => try simp only [Act.put, List.setIfInBounds_toArray, List.set_cons_zero, List.set_cons_succ]
        refine Drawn.pass (i := 16) (d := some 45) rfl rfl (by kernel_rfl) (by kernel_rfl) (by kernel_rfl) (fun _ _ _ h => h) (by rfl) (by assumption) ?rest71
        case' rest71 => try simp only [Act.put, List.setIfInBounds_toArray, List.set_cons_zero, List.set_cons_succ]
        refine Drawn.pass (i := 17) (d := some 46) rfl rfl (by kernel_rfl) (by kernel_rfl) (by kernel_rfl) (fun _ _ _ h => h) (by rfl) (by assumption) ?rest72
        case' rest72 => try simp only [Act.put, List.setIfInBounds_toArray, List.set_cons_zero, List.set_cons_succ]
        refine Drawn.pass (i := 18) (d := some 47) rfl rfl (by kernel_rfl) (by kernel_rfl) (by kernel_rfl) (fun _ _ _ h => h) (by rfl) (by assumption) ?rest73
        case' rest73 => try simp only [Act.put, List.setIfInBounds_toArray, List.set_cons_zero, List.set_cons_succ]
        refine Drawn.pass (i := 19) (d := some 48) rfl rfl (by kernel_rfl) (by kernel_rfl) (by kernel_rfl) (fun _ _ _ h => h) (by rfl) (by assumption) ?rest74
        case' rest74 => try simp only [Act.put, List.setIfInBounds_toArray, List.set_cons_zero, List.set_cons_succ]
        refine Drawn.pass (i := 20) (d := some 49) rfl rfl (by kernel_rfl) (by kernel_rfl) (by kernel_rfl) (fun _ _ _ h => h) (by rfl) (by assumption) ?rest75
        case' rest75 => try simp only [Act.put, List.setIfInBounds_toArray, List.set_cons_zero, List.set_cons_succ]
        refine Drawn.pass (i := 21) (d := some 50) rfl rfl (by kernel_rfl) (by kernel_rfl) (by kernel_rfl) (fun _ _ _ h => h) (by rfl) (by assumption) ?rest76
        case' rest76 => try simp only [Act.put, List.setIfInBounds_toArray, List.set_cons_zero, List.set_cons_succ]
        refine Drawn.pass (i := 22) (d := some 51) rfl rfl (by kernel_rfl) (by kernel_rfl) (by kernel_rfl) (fun _ _ _ h => h) (by rfl) (by assumption) ?rest77
        case' rest77 => try simp only [Act.put, List.setIfInBounds_toArray, List.set_cons_zero, List.set_cons_succ]
        refine Drawn.take (i := 23) (d := some 52) (v := ?v8) rfl rfl (by kernel_rfl) (by kernel_rfl) (by kernel_rfl) (fun _ _ _ h => h) (by rfl) ?hy8 (by assumption) ?rest8
        case hy8 => (intro w hSw; (try dsimp only at hSw); go_simp; try with_reducible rfl)
        case' rest8 => try simp only [Act.put, List.setIfInBounds_toArray, List.set_cons_zero, List.set_cons_succ]
        refine wpAnyH_done (by kernel_rfl) ?_ _
        go_wp2
        go_ret
        exact ⟨ret_bool (by rw [hall0.out]; simp [hno.out (sme_head hph.out)]), hbw.trans (hbW.mono hbs)⟩
      · rcases (show (t.regs != 0) = true ∨ (t.regs != 0) = false by cases (t.regs != 0) <;> simp) with hreg | hreg
        ·
          refine wp_region_held_drew (S := fun w' => (w'.cell? ⟨w.heap.size, 0, none⟩ = some vc ∧ w'.cell? ⟨w.heap.size, 1, none⟩ = some (.slice (some ⟨b, o, none⟩) f.methods.length mcap)) ∧ w'.cell? ⟨wr.heap.size, 0, none⟩ = some (.slice pa t.params.length pcap) ∧ w'.cell? ⟨wr.heap.size, 1, none⟩ = some (.int .i64 t.ret.kind) ∧ w'.cell? ⟨wr.heap.size, 2, none⟩ = some (.int .i64 t.ret.cls) ∧ w'.cell? ⟨wr.heap.size, 3, none⟩ = some (.int .i64 t.stack) ∧ w'.cell? ⟨wr.heap.size, 4, none⟩ = some (.int .i64 t.locals) ∧ w'.cell? ⟨wr.heap.size, 5, none⟩ = some (.int .i64 t.regs) ∧ w'.cell? ⟨wr.heap.size, 6, none⟩ = some (.slice da t.code.length dcap) ∧ w'.cell? ⟨wr.heap.size, 7, none⟩ = some (.slice ha t.handlers.length hcap)) (by kernel_rfl) (by (try dsimp only); first | exact ⟨⟨f1, f2⟩, m0, m1, m2, m3, m4, m5, m6, m7⟩ | go_keep) (fun hHeld => ?_)
          refine Drawn.take (i := 0) (d := some 29) (v := ?v9) rfl rfl (by kernel_rfl) (by kernel_rfl) (by kernel_rfl) (fun _ _ _ h => h) (by rfl) ?hy9 (by assumption) ?rest9
          case hy9 => (intro w hSw; (try dsimp only at hSw); go_simp; try with_reducible rfl)
          case' rest9 => try simp only [Act.put, List.setIfInBounds_toArray, List.set_cons_zero, List.set_cons_succ]
          refine Drawn.take (i := 1) (d := some 30) (v := ?v10) rfl rfl (by kernel_rfl) (by kernel_rfl) (by kernel_rfl) (fun _ _ _ h => h) (by rfl) ?hy10 (by assumption) ?rest10
          case hy10 => (intro w hSw; (try dsimp only at hSw); go_simp; try with_reducible rfl)
          case' rest10 => try simp only [Act.put, List.setIfInBounds_toArray, List.set_cons_zero, List.set_cons_succ]
          refine wpAnyH_ready (rs := [2]) (by kernel_rfl) (by simp) ?_
          refine AllReadyH.cons rfl (fun K hK => ?_) AllReadyH.nil
          go_simp
          go_at_call 49
          refine (headV f t 400 _ _ _ _ hph.out (hfW.mono (by repeat' (first | with_reducible exact Below.refl _ _ | with_reducible assumption | exact Nat.le_refl _ | with_reducible refine Go.Proofs.Ytncmhenfgbcihaa.Rd.below_drewN ?_ _ | with_reducible refine Below.alloc ?_ ?_ _ | with_reducible refine Below.setCell ?_ ?_ _ | with_reducible refine Below.drew ?_ | omega | (simp; omega) | (simp; done))) (by simp)) (hmW.mono (by repeat' (first | with_reducible exact Below.refl _ _ | with_reducible assumption | exact Nat.le_refl _ | with_reducible refine Go.Proofs.Ytncmhenfgbcihaa.Rd.below_drewN ?_ _ | with_reducible refine Below.alloc ?_ ?_ _ | with_reducible refine Below.setCell ?_ ?_ _ | with_reducible refine Below.drew ?_ | omega | (simp; omega) | (simp; done))) (by simp)) (by omega)).mono ?_
          rintro e w2 ⟨rfl, hb2⟩
          have hbW : Below W.heap.size W w2 := Below.trans (by repeat' (first | with_reducible exact Below.refl _ _ | with_reducible assumption | exact Nat.le_refl _ | with_reducible refine Go.Proofs.Ytncmhenfgbcihaa.Rd.below_drewN ?_ _ | with_reducible refine Below.alloc ?_ ?_ _ | with_reducible refine Below.setCell ?_ ?_ _ | with_reducible refine Below.drew ?_ | omega | (simp; omega) | (simp; done))) (hb2.mono (by simp))
          have k2 := B2.next ⟨f1, f2⟩ hbW (by omega)
          have k8 := B8.next ⟨m0, m1, m2, m3, m4, m5, m6, m7⟩ hbW (by omega)
          go_wp2_with fail
          refine hK.out _ _ (by (try dsimp only); exact ⟨k2, k8⟩) (fun hHeld => ?_)
          clear hK K
          try simp only [Act.put, List.setIfInBounds_toArray, List.set_cons_zero, List.set_cons_succ]
          refine Drawn.take (i := 3) (d := some 32) (v := ?v11) rfl rfl (by kernel_rfl) (by kernel_rfl) (by kernel_rfl) (fun _ _ _ h => h) (by rfl) ?hy11 (by assumption) ?rest11
          case hy11 => (intro w hSw; (try dsimp only at hSw); go_simp; try with_reducible rfl)
          case' rest11 => try simp only [Act.put, List.setIfInBounds_toArray, List.set_cons_zero, List.set_cons_succ]
          refine Drawn.take (i := 4) (d := some 33) (v := ?v12) rfl rfl (by kernel_rfl) (by kernel_rfl) (by kernel_rfl) (fun _ _ _ h => h) (by rfl) ?hy12 (by assumption) ?rest12
          case hy12 => (intro w hSw; (try dsimp only at hSw); go_simp; try with_reducible rfl)
          case' rest12 => try simp only [Act.put, List.setIfInBounds_toArray, List.set_cons_zero, List.set_cons_succ]
          refine Drawn.take (i := 5) (d := some 34) (v := ?v13) rfl rfl (by kernel_rfl) (by kernel_rfl) (by kernel_rfl) (fun _ _ _ h => h) (by rfl) ?hy13 (by assumption) ?rest13
          case hy13 => (intro w hSw; (try dsimp only at hSw); go_simp; try with_reducible rfl)
          case' rest13 => try simp only [Act.put, List.setIfInBounds_toArray, List.set_cons_zero, List.set_cons_succ]
          refine Drawn.take (i := 6) (d := some 35) (v := ?v14) rfl rfl (by kernel_rfl) (by kernel_rfl) (by kernel_rfl) (fun _ _ _ h => h) (by rfl) ?hy14 (by assumption) ?rest14
          case hy14 => (intro w hSw; (try dsimp only at hSw); go_simp; try with_reducible rfl)
          case' rest14 => try simp only [Act.put, List.setIfInBounds_toArray, List.set_cons_zero, List.set_cons_succ]
          refine Drawn.take (i := 7) (d := some 36) (v := ?v15) rfl rfl (by kernel_rfl) (by kernel_rfl) (by kernel_rfl) (fun _ _ _ h => h) (by rfl) ?hy15 (by assumption) ?rest15
          case hy15 => (intro w hSw; (try dsimp only at hSw); go_simp; try with_reducible rfl)
          case' rest15 => try simp only [Act.put, List.setIfInBounds_toArray, List.set_cons_zero, List.set_cons_succ]
          refine Drawn.take (i := 8) (d := some 37) (v := ?v16) rfl rfl (by kernel_rfl) (by kernel_rfl) (by kernel_rfl) (fun _ _ _ h => h) (by rfl) ?hy16 (by assumption) ?rest16
          case hy16 => (intro w hSw; (try dsimp only at hSw); go_simp; try with_reducible rfl)
          case' rest16 => try simp only [Act.put, List.setIfInBounds_toArray, List.set_cons_zero, List.set_cons_succ]
          refine Drawn.take (i := 9) (d := some 38) (v := ?v17) rfl rfl (by kernel_rfl) (by kernel_rfl) (by kernel_rfl) (fun _ _ _ h => h) (by rfl) ?hy17 (by assumption) ?rest17
          case hy17 => (intro w hSw; (try dsimp only at hSw); go_simp; try with_reducible rfl)
          case' rest17 => try simp only [Act.put, List.setIfInBounds_toArray, List.set_cons_zero, List.set_cons_succ]
          refine Drawn.pass (i := 10) (d := some 39) rfl rfl (by kernel_rfl) (by kernel_rfl) (by kernel_rfl) (fun _ _ _ h => h) (by rfl) (by assumption) ?rest78
          case' rest78 => try simp only [Act.put, List.setIfInBounds_toArray, List.set_cons_zero, List.set_cons_succ]
          refine Drawn.pass (i := 11) (d := some 40) rfl rfl (by kernel_rfl) (by kernel_rfl) (by kernel_rfl) (fun _ _ _ h => h) (by rfl) (by assumption) ?rest79
          case' rest79 => try simp only [Act.put, List.setIfInBounds_toArray, List.set_cons_zero, List.set_cons_succ]
          refine Drawn.pass (i := 12) (d := some 41) rfl rfl (by kernel_rfl) (by kernel_rfl) (by kernel_rfl) (fun _ _ _ h => h) (by rfl) (by assumption) ?rest80
          case' rest80 => try simp only [Act.put, List.setIfInBounds_toArray, List.set_cons_zero, List.set_cons_succ]
          refine Drawn.pass (i := 13) (d := some 42) rfl rfl (by kernel_rfl) (by kernel_rfl) (by kernel_rfl) (fun _ _ _ h => h) (by rfl) (by assumption) ?rest81
          case' rest81 => try simp only [Act.put, List.setIfInBounds_toArray, List.set_cons_zero, List.set_cons_succ]
          refine Drawn.take (i := 14) (d := some 43) (v := ?v18) rfl rfl (by kernel_rfl) (by kernel_rfl) (by kernel_rfl) (fun _ _ _ h => h) (by rfl) ?hy18 (by assumption) ?rest18
          case hy18 => (intro w hSw; (try dsimp only at hSw); go_simp; try with_reducible rfl)
          case' rest18 => try simp only [Act.put, List.setIfInBounds_toArray, List.set_cons_zero, List.set_cons_succ]
          refine Drawn.take (i := 15) (d := some 44) (v := ?v19) rfl rfl (by kernel_rfl) (by kernel_rfl) (by kernel_rfl) (fun _ _ _ h => h) (by rfl) ?hy19 (by assumption) ?rest19
          case hy19 => (intro w hSw; (try dsimp only at hSw); go_simp; try with_reducible rfl)
          case' rest19 => try simp only [Act.put, List.setIfInBounds_toArray, List.set_cons_zero, List.set_cons_succ]
          refine Drawn.pass (i := 16) (d := some 45) rfl rfl (by kernel_rfl) (by kernel_rfl) (by kernel_rfl) (fun _ _ _ h => h) (by rfl) (by assumption) ?rest82
          case' rest82 => try simp only [Act.put, List.setIfInBounds_toArray, List.set_cons_zero, List.set_cons_succ]
          refine Drawn.pass (i := 17) (d := some 46) rfl rfl (by kernel_rfl) (by kernel_rfl) (by kernel_rfl) (fun _ _ _ h => h) (by rfl) (by assumption) ?rest83
          case' rest83 => try simp only [Act.put, List.setIfInBounds_toArray, List.set_cons_zero, List.set_cons_succ]
          refine Drawn.pass (i := 18) (d := some 47) rfl rfl (by kernel_rfl) (by kernel_rfl) (by kernel_rfl) (fun _ _ _ h => h) (by rfl) (by assumption) ?rest84
          case' rest84 => try simp only [Act.put, List.setIfInBounds_toArray, List.set_cons_zero, List.set_cons_succ]
          refine Drawn.pass (i := 19) (d := some 48) rfl rfl (by kernel_rfl) (by kernel_rfl) (by kernel_rfl) (fun _ _ _ h => h) (by rfl) (by assumption) ?rest85
          case' rest85 => try simp only [Act.put, List.setIfInBounds_toArray, List.set_cons_zero, List.set_cons_succ]
          refine Drawn.pass (i := 20) (d := some 49) rfl rfl (by kernel_rfl) (by kernel_rfl) (by kernel_rfl) (fun _ _ _ h => h) (by rfl) (by assumption) ?rest86
          case' rest86 => try simp only [Act.put, List.setIfInBounds_toArray, List.set_cons_zero, List.set_cons_succ]
          refine Drawn.pass (i := 21) (d := some 50) rfl rfl (by kernel_rfl) (by kernel_rfl) (by kernel_rfl) (fun _ _ _ h => h) (by rfl) (by assumption) ?rest87
          case' rest87 => try simp only [Act.put, List.setIfInBounds_toArray, List.set_cons_zero, List.set_cons_succ]
          refine Drawn.pass (i := 22) (d := some 51) rfl rfl (by kernel_rfl) (by kernel_rfl) (by kernel_rfl) (fun _ _ _ h => h) (by rfl) (by assumption) ?rest88
          case' rest88 => try simp only [Act.put, List.setIfInBounds_toArray, List.set_cons_zero, List.set_cons_succ]
          refine Drawn.take (i := 23) (d := some 52) (v := ?v20) rfl rfl (by kernel_rfl) (by kernel_rfl) (by kernel_rfl) (fun _ _ _ h => h) (by rfl) ?hy20 (by assumption) ?rest20
          case hy20 => (intro w hSw; (try dsimp only at hSw); go_simp; try with_reducible rfl)
          case' rest20 => try simp only [Act.put, List.setIfInBounds_toArray, List.set_cons_zero, List.set_cons_succ]
          refine wpAnyH_done (by kernel_rfl) ?_ _
          go_wp2
          go_ret
          exact ⟨ret_bool (by rw [hall0.out]; simp [hno.out (sme_regs (by simpa using hreg))]), hbw.trans (hbW.mono hbs)⟩
        · cases pst
          ·
            refine wp_region_held_drew (S := fun w' => (w'.cell? ⟨w.heap.size, 0, none⟩ = some vc ∧ w'.cell? ⟨w.heap.size, 1, none⟩ = some (.slice (some ⟨b, o, none⟩) f.methods.length mcap)) ∧ w'.cell? ⟨wr.heap.size, 0, none⟩ = some (.slice pa t.params.length pcap) ∧ w'.cell? ⟨wr.heap.size, 1, none⟩ = some (.int .i64 t.ret.kind) ∧ w'.cell? ⟨wr.heap.size, 2, none⟩ = some (.int .i64 t.ret.cls) ∧ w'.cell? ⟨wr.heap.size, 3, none⟩ = some (.int .i64 t.stack) ∧ w'.cell? ⟨wr.heap.size, 4, none⟩ = some (.int .i64 t.locals) ∧ w'.cell? ⟨wr.heap.size, 5, none⟩ = some (.int .i64 t.regs) ∧ w'.cell? ⟨wr.heap.size, 6, none⟩ = some (.slice da t.code.length dcap) ∧ w'.cell? ⟨wr.heap.size, 7, none⟩ = some (.slice ha t.handlers.length hcap)) (by kernel_rfl) (by (try dsimp only); first | exact ⟨⟨f1, f2⟩, m0, m1, m2, m3, m4, m5, m6, m7⟩ | go_keep) (fun hHeld => ?_)
            refine Drawn.take (i := 0) (d := some 29) (v := ?v21) rfl rfl (by kernel_rfl) (by kernel_rfl) (by kernel_rfl) (fun _ _ _ h => h) (by rfl) ?hy21 (by assumption) ?rest21
            case hy21 => (intro w hSw; (try dsimp only at hSw); go_simp; try with_reducible rfl)
            case' rest21 => try simp only [Act.put, List.setIfInBounds_toArray, List.set_cons_zero, List.set_cons_succ]
            refine Drawn.take (i := 1) (d := some 30) (v := ?v22) rfl rfl (by kernel_rfl) (by kernel_rfl) (by kernel_rfl) (fun _ _ _ h => h) (by rfl) ?hy22 (by assumption) ?rest22
            case hy22 => (intro w hSw; (try dsimp only at hSw); go_simp; try with_reducible rfl)
            case' rest22 => try simp only [Act.put, List.setIfInBounds_toArray, List.set_cons_zero, List.set_cons_succ]
            refine wpAnyH_ready (rs := [2]) (by kernel_rfl) (by simp) ?_
            refine AllReadyH.cons rfl (fun K hK => ?_) AllReadyH.nil
            go_simp
            go_at_call 49
            refine (headV f t 400 _ _ _ _ hph.out (hfW.mono (by repeat' (first | with_reducible exact Below.refl _ _ | with_reducible assumption | exact Nat.le_refl _ | with_reducible refine Go.Proofs.Ytncmhenfgbcihaa.Rd.below_drewN ?_ _ | with_reducible refine Below.alloc ?_ ?_ _ | with_reducible refine Below.setCell ?_ ?_ _ | with_reducible refine Below.drew ?_ | omega | (simp; omega) | (simp; done))) (by simp)) (hmW.mono (by repeat' (first | with_reducible exact Below.refl _ _ | with_reducible assumption | exact Nat.le_refl _ | with_reducible refine Go.Proofs.Ytncmhenfgbcihaa.Rd.below_drewN ?_ _ | with_reducible refine Below.alloc ?_ ?_ _ | with_reducible refine Below.setCell ?_ ?_ _ | with_reducible refine Below.drew ?_ | omega | (simp; omega) | (simp; done))) (by simp)) (by omega)).mono ?_
            rintro e w2 ⟨rfl, hb2⟩
            have hbW : Below W.heap.size W w2 := Below.trans (by repeat' (first | with_reducible exact Below.refl _ _ | with_reducible assumption | exact Nat.le_refl _ | with_reducible refine Go.Proofs.Ytncmhenfgbcihaa.Rd.below_drewN ?_ _ | with_reducible refine Below.alloc ?_ ?_ _ | with_reducible refine Below.setCell ?_ ?_ _ | with_reducible refine Below.drew ?_ | omega | (simp; omega) | (simp; done))) (hb2.mono (by simp))
            have k2 := B2.next ⟨f1, f2⟩ hbW (by omega)
            have k8 := B8.next ⟨m0, m1, m2, m3, m4, m5, m6, m7⟩ hbW (by omega)
            go_wp2_with fail
            refine hK.out _ _ (by (try dsimp only); exact ⟨k2, k8⟩) (fun hHeld => ?_)
            clear hK K
            try simp only [Act.put, List.setIfInBounds_toArray, List.set_cons_zero, List.set_cons_succ]
            refine Drawn.take (i := 3) (d := some 32) (v := ?v23) rfl rfl (by kernel_rfl) (by kernel_rfl) (by kernel_rfl) (fun _ _ _ h => h) (by rfl) ?hy23 (by assumption) ?rest23
            case hy23 => (intro w hSw; (try dsimp only at hSw); go_simp; try with_reducible rfl)
            case' rest23 => try simp only [Act.put, List.setIfInBounds_toArray, List.set_cons_zero, List.set_cons_succ]
            refine Drawn.take (i := 4) (d := some 33) (v := ?v24) rfl rfl (by kernel_rfl) (by kernel_rfl) (by kernel_rfl) (fun _ _ _ h => h) (by rfl) ?hy24 (by assumption) ?rest24
            case hy24 => (intro w hSw; (try dsimp only at hSw); go_simp; try with_reducible rfl)
            case' rest24 => try simp only [Act.put, List.setIfInBounds_toArray, List.set_cons_zero, List.set_cons_succ]
            refine Drawn.take (i := 5) (d := some 34) (v := ?v25) rfl rfl (by kernel_rfl) (by kernel_rfl) (by kernel_rfl) (fun _ _ _ h => h) (by rfl) ?hy25 (by assumption) ?rest25
            case hy25 => (intro w hSw; (try dsimp only at hSw); go_simp; try with_reducible rfl)
            case' rest25 => try simp only [Act.put, List.setIfInBounds_toArray, List.set_cons_zero, List.set_cons_succ]
            refine Drawn.take (i := 6) (d := some 35) (v := ?v26) rfl rfl (by kernel_rfl) (by kernel_rfl) (by kernel_rfl) (fun _ _ _ h => h) (by rfl) ?hy26 (by assumption) ?rest26
            case hy26 => (intro w hSw; (try dsimp only at hSw); go_simp; try with_reducible rfl)
            case' rest26 => try simp only [Act.put, List.setIfInBounds_toArray, List.set_cons_zero, List.set_cons_succ]
            refine Drawn.take (i := 7) (d := some 36) (v := ?v27) rfl rfl (by kernel_rfl) (by kernel_rfl) (by kernel_rfl) (fun _ _ _ h => h) (by rfl) ?hy27 (by assumption) ?rest27
            case hy27 => (intro w hSw; (try dsimp only at hSw); go_simp; try with_reducible rfl)
            case' rest27 => try simp only [Act.put, List.setIfInBounds_toArray, List.set_cons_zero, List.set_cons_succ]
            refine Drawn.take (i := 8) (d := some 37) (v := ?v28) rfl rfl (by kernel_rfl) (by kernel_rfl) (by kernel_rfl) (fun _ _ _ h => h) (by rfl) ?hy28 (by assumption) ?rest28
            case hy28 => (intro w hSw; (try dsimp only at hSw); go_simp; try with_reducible rfl)
            case' rest28 => try simp only [Act.put, List.setIfInBounds_toArray, List.set_cons_zero, List.set_cons_succ]
            refine Drawn.take (i := 9) (d := some 38) (v := ?v29) rfl rfl (by kernel_rfl) (by kernel_rfl) (by kernel_rfl) (fun _ _ _ h => h) (by rfl) ?hy29 (by assumption) ?rest29
            case hy29 => (intro w hSw; (try dsimp only at hSw); go_simp; try with_reducible rfl)
            case' rest29 => try simp only [Act.put, List.setIfInBounds_toArray, List.set_cons_zero, List.set_cons_succ]
            refine Drawn.take (i := 10) (d := some 39) (v := ?v30) rfl rfl (by kernel_rfl) (by kernel_rfl) (by kernel_rfl) (fun _ _ _ h => h) (by rfl) ?hy30 (by assumption) ?rest30
            case hy30 => (intro w hSw; (try dsimp only at hSw); go_simp; try with_reducible rfl)
            case' rest30 => try simp only [Act.put, List.setIfInBounds_toArray, List.set_cons_zero, List.set_cons_succ]
            refine Drawn.take (i := 11) (d := some 40) (v := ?v31) rfl rfl (by kernel_rfl) (by kernel_rfl) (by kernel_rfl) (fun _ _ _ h => h) (by rfl) ?hy31 (by assumption) ?rest31
            case hy31 => (intro w hSw; (try dsimp only at hSw); go_simp; try with_reducible rfl)
            case' rest31 => try simp only [Act.put, List.setIfInBounds_toArray, List.set_cons_zero, List.set_cons_succ]
            refine wpAnyH_ready (rs := [12]) (by kernel_rfl) (by simp) ?_
            refine AllReadyH.cons rfl (fun K hK => ?_) AllReadyH.nil
            go_simp
            go_at_call 48
            refine (wiV _ _ _ _ _ hps.out).mono ?_
            rintro e w3 ⟨rfl, rfl⟩
            go_wp2_with fail
            refine hK.out _ _ (by (try dsimp only); exact ⟨k2, k8⟩) (fun hHeld => ?_)
            clear hK K
            try simp only [Act.put, List.setIfInBounds_toArray, List.set_cons_zero, List.set_cons_succ]
            refine Drawn.take (i := 13) (d := some 42) (v := ?v32) rfl rfl (by kernel_rfl) (by kernel_rfl) (by kernel_rfl) (fun _ _ _ h => h) (by rfl) ?hy32 (by assumption) ?rest32
            case hy32 => (intro w hSw; (try dsimp only at hSw); go_simp; try with_reducible rfl)
            case' rest32 => try simp only [Act.put, List.setIfInBounds_toArray, List.set_cons_zero, List.set_cons_succ]
            refine Drawn.take (i := 14) (d := some 43) (v := ?v33) rfl rfl (by kernel_rfl) (by kernel_rfl) (by kernel_rfl) (fun _ _ _ h => h) (by rfl) ?hy33 (by assumption) ?rest33
            case hy33 => (intro w hSw; (try dsimp only at hSw); go_simp; try with_reducible rfl)
            case' rest33 => try simp only [Act.put, List.setIfInBounds_toArray, List.set_cons_zero, List.set_cons_succ]
            refine Drawn.take (i := 15) (d := some 44) (v := ?v34) rfl rfl (by kernel_rfl) (by kernel_rfl) (by kernel_rfl) (fun _ _ _ h => h) (by rfl) ?hy34 (by assumption) ?rest34
            case hy34 => (intro w hSw; (try dsimp only at hSw); go_simp; try with_reducible rfl)
            case' rest34 => try simp only [Act.put, List.setIfInBounds_toArray, List.set_cons_zero, List.set_cons_succ]
            refine Drawn.pass (i := 16) (d := some 45) rfl rfl (by kernel_rfl) (by kernel_rfl) (by kernel_rfl) (fun _ _ _ h => h) (by rfl) (by assumption) ?rest89
            case' rest89 => try simp only [Act.put, List.setIfInBounds_toArray, List.set_cons_zero, List.set_cons_succ]
            refine Drawn.pass (i := 17) (d := some 46) rfl rfl (by kernel_rfl) (by kernel_rfl) (by kernel_rfl) (fun _ _ _ h => h) (by rfl) (by assumption) ?rest90
            case' rest90 => try simp only [Act.put, List.setIfInBounds_toArray, List.set_cons_zero, List.set_cons_succ]
            refine Drawn.pass (i := 18) (d := some 47) rfl rfl (by kernel_rfl) (by kernel_rfl) (by kernel_rfl) (fun _ _ _ h => h) (by rfl) (by assumption) ?rest91
            case' rest91 => try simp only [Act.put, List.setIfInBounds_toArray, List.set_cons_zero, List.set_cons_succ]
            refine Drawn.pass (i := 19) (d := some 48) rfl rfl (by kernel_rfl) (by kernel_rfl) (by kernel_rfl) (fun _ _ _ h => h) (by rfl) (by assumption) ?rest92
            case' rest92 => try simp only [Act.put, List.setIfInBounds_toArray, List.set_cons_zero, List.set_cons_succ]
            refine Drawn.pass (i := 20) (d := some 49) rfl rfl (by kernel_rfl) (by kernel_rfl) (by kernel_rfl) (fun _ _ _ h => h) (by rfl) (by assumption) ?rest93
            case' rest93 => try simp only [Act.put, List.setIfInBounds_toArray, List.set_cons_zero, List.set_cons_succ]
            refine Drawn.pass (i := 21) (d := some 50) rfl rfl (by kernel_rfl) (by kernel_rfl) (by kernel_rfl) (fun _ _ _ h => h) (by rfl) (by assumption) ?rest94
            case' rest94 => try simp only [Act.put, List.setIfInBounds_toArray, List.set_cons_zero, List.set_cons_succ]
            refine Drawn.pass (i := 22) (d := some 51) rfl rfl (by kernel_rfl) (by kernel_rfl) (by kernel_rfl) (fun _ _ _ h => h) (by rfl) (by assumption) ?rest95
            case' rest95 => try simp only [Act.put, List.setIfInBounds_toArray, List.set_cons_zero, List.set_cons_succ]
            refine Drawn.take (i := 23) (d := some 52) (v := ?v35) rfl rfl (by kernel_rfl) (by kernel_rfl) (by kernel_rfl) (fun _ _ _ h => h) (by rfl) ?hy35 (by assumption) ?rest35
            case hy35 => (intro w hSw; (try dsimp only at hSw); go_simp; try with_reducible rfl)
            case' rest35 => try simp only [Act.put, List.setIfInBounds_toArray, List.set_cons_zero, List.set_cons_succ]
            refine wpAnyH_done (by kernel_rfl) ?_ _
            go_wp2
            go_ret
            exact ⟨ret_bool (by rw [hall0.out]; simp [hno.out (sme_stack (by have h := hps.out; rw [within_rng] at h; exact h))]), hbw.trans (hbW.mono hbs)⟩
          ·
            have hp4 : t.params.length ≤ 4 := by
              have h := hph.out
              simp only [Form.head, Bool.and_eq_true, decide_eq_true_eq] at h
              exact h.1.1.1.2
            refine wp_region_held_drew (S := fun w' => (w'.cell? ⟨w.heap.size, 0, none⟩ = some vc ∧ w'.cell? ⟨w.heap.size, 1, none⟩ = some (.slice (some ⟨b, o, none⟩) f.methods.length mcap)) ∧ w'.cell? ⟨wr.heap.size, 0, none⟩ = some (.slice pa t.params.length pcap) ∧ w'.cell? ⟨wr.heap.size, 1, none⟩ = some (.int .i64 t.ret.kind) ∧ w'.cell? ⟨wr.heap.size, 2, none⟩ = some (.int .i64 t.ret.cls) ∧ w'.cell? ⟨wr.heap.size, 3, none⟩ = some (.int .i64 t.stack) ∧ w'.cell? ⟨wr.heap.size, 4, none⟩ = some (.int .i64 t.locals) ∧ w'.cell? ⟨wr.heap.size, 5, none⟩ = some (.int .i64 t.regs) ∧ w'.cell? ⟨wr.heap.size, 6, none⟩ = some (.slice da t.code.length dcap) ∧ w'.cell? ⟨wr.heap.size, 7, none⟩ = some (.slice ha t.handlers.length hcap)) (by kernel_rfl) (by (try dsimp only); first | exact ⟨⟨f1, f2⟩, m0, m1, m2, m3, m4, m5, m6, m7⟩ | go_keep) (fun hHeld => ?_)
            refine Drawn.take (i := 0) (d := some 29) (v := ?v36) rfl rfl (by kernel_rfl) (by kernel_rfl) (by kernel_rfl) (fun _ _ _ h => h) (by rfl) ?hy36 (by assumption) ?rest36
            case hy36 => (intro w hSw; (try dsimp only at hSw); go_simp; try with_reducible rfl)
            case' rest36 => try simp only [Act.put, List.setIfInBounds_toArray, List.set_cons_zero, List.set_cons_succ]
            refine Drawn.take (i := 1) (d := some 30) (v := ?v37) rfl rfl (by kernel_rfl) (by kernel_rfl) (by kernel_rfl) (fun _ _ _ h => h) (by rfl) ?hy37 (by assumption) ?rest37
            case hy37 => (intro w hSw; (try dsimp only at hSw); go_simp; try with_reducible rfl)
            case' rest37 => try simp only [Act.put, List.setIfInBounds_toArray, List.set_cons_zero, List.set_cons_succ]
            refine wpAnyH_ready (rs := [2]) (by kernel_rfl) (by simp) ?_
            refine AllReadyH.cons rfl (fun K hK => ?_) AllReadyH.nil
            go_simp
            go_at_call 49
            refine (headV f t 400 _ _ _ _ hph.out (hfW.mono (by repeat' (first | with_reducible exact Below.refl _ _ | with_reducible assumption | exact Nat.le_refl _ | with_reducible refine Go.Proofs.Ytncmhenfgbcihaa.Rd.below_drewN ?_ _ | with_reducible refine Below.alloc ?_ ?_ _ | with_reducible refine Below.setCell ?_ ?_ _ | with_reducible refine Below.drew ?_ | omega | (simp; omega) | (simp; done))) (by simp)) (hmW.mono (by repeat' (first | with_reducible exact Below.refl _ _ | with_reducible assumption | exact Nat.le_refl _ | with_reducible refine Go.Proofs.Ytncmhenfgbcihaa.Rd.below_drewN ?_ _ | with_reducible refine Below.alloc ?_ ?_ _ | with_reducible refine Below.setCell ?_ ?_ _ | with_reducible refine Below.drew ?_ | omega | (simp; omega) | (simp; done))) (by simp)) (by omega)).mono ?_
            rintro e w2 ⟨rfl, hb2⟩
            have hbW : Below W.heap.size W w2 := Below.trans (by repeat' (first | with_reducible exact Below.refl _ _ | with_reducible assumption | exact Nat.le_refl _ | with_reducible refine Go.Proofs.Ytncmhenfgbcihaa.Rd.below_drewN ?_ _ | with_reducible refine Below.alloc ?_ ?_ _ | with_reducible refine Below.setCell ?_ ?_ _ | with_reducible refine Below.drew ?_ | omega | (simp; omega) | (simp; done))) (hb2.mono (by simp))
            have k2 := B2.next ⟨f1, f2⟩ hbW (by omega)
            have k8 := B8.next ⟨m0, m1, m2, m3, m4, m5, m6, m7⟩ hbW (by omega)
            go_wp2_with fail
            refine hK.out _ _ (by (try dsimp only); exact ⟨k2, k8⟩) (fun hHeld => ?_)
            clear hK K
            try simp only [Act.put, List.setIfInBounds_toArray, List.set_cons_zero, List.set_cons_succ]
            refine Drawn.take (i := 3) (d := some 32) (v := ?v38) rfl rfl (by kernel_rfl) (by kernel_rfl) (by kernel_rfl) (fun _ _ _ h => h) (by rfl) ?hy38 (by assumption) ?rest38
            case hy38 => (intro w hSw; (try dsimp only at hSw); go_simp; try with_reducible rfl)
            case' rest38 => try simp only [Act.put, List.setIfInBounds_toArray, List.set_cons_zero, List.set_cons_succ]
            refine Drawn.take (i := 4) (d := some 33) (v := ?v39) rfl rfl (by kernel_rfl) (by kernel_rfl) (by kernel_rfl) (fun _ _ _ h => h) (by rfl) ?hy39 (by assumption) ?rest39
            case hy39 => (intro w hSw; (try dsimp only at hSw); go_simp; try with_reducible rfl)
            case' rest39 => try simp only [Act.put, List.setIfInBounds_toArray, List.set_cons_zero, List.set_cons_succ]
            refine Drawn.take (i := 5) (d := some 34) (v := ?v40) rfl rfl (by kernel_rfl) (by kernel_rfl) (by kernel_rfl) (fun _ _ _ h => h) (by rfl) ?hy40 (by assumption) ?rest40
            case hy40 => (intro w hSw; (try dsimp only at hSw); go_simp; try with_reducible rfl)
            case' rest40 => try simp only [Act.put, List.setIfInBounds_toArray, List.set_cons_zero, List.set_cons_succ]
            refine Drawn.take (i := 6) (d := some 35) (v := ?v41) rfl rfl (by kernel_rfl) (by kernel_rfl) (by kernel_rfl) (fun _ _ _ h => h) (by rfl) ?hy41 (by assumption) ?rest41
            case hy41 => (intro w hSw; (try dsimp only at hSw); go_simp; try with_reducible rfl)
            case' rest41 => try simp only [Act.put, List.setIfInBounds_toArray, List.set_cons_zero, List.set_cons_succ]
            refine Drawn.take (i := 7) (d := some 36) (v := ?v42) rfl rfl (by kernel_rfl) (by kernel_rfl) (by kernel_rfl) (fun _ _ _ h => h) (by rfl) ?hy42 (by assumption) ?rest42
            case hy42 => (intro w hSw; (try dsimp only at hSw); go_simp; try with_reducible rfl)
            case' rest42 => try simp only [Act.put, List.setIfInBounds_toArray, List.set_cons_zero, List.set_cons_succ]
            refine Drawn.take (i := 8) (d := some 37) (v := ?v43) rfl rfl (by kernel_rfl) (by kernel_rfl) (by kernel_rfl) (fun _ _ _ h => h) (by rfl) ?hy43 (by assumption) ?rest43
            case hy43 => (intro w hSw; (try dsimp only at hSw); go_simp; try with_reducible rfl)
            case' rest43 => try simp only [Act.put, List.setIfInBounds_toArray, List.set_cons_zero, List.set_cons_succ]
            refine Drawn.take (i := 9) (d := some 38) (v := ?v44) rfl rfl (by kernel_rfl) (by kernel_rfl) (by kernel_rfl) (fun _ _ _ h => h) (by rfl) ?hy44 (by assumption) ?rest44
            case hy44 => (intro w hSw; (try dsimp only at hSw); go_simp; try with_reducible rfl)
            case' rest44 => try simp only [Act.put, List.setIfInBounds_toArray, List.set_cons_zero, List.set_cons_succ]
            refine Drawn.take (i := 10) (d := some 39) (v := ?v45) rfl rfl (by kernel_rfl) (by kernel_rfl) (by kernel_rfl) (fun _ _ _ h => h) (by rfl) ?hy45 (by assumption) ?rest45
            case hy45 => (intro w hSw; (try dsimp only at hSw); go_simp; try with_reducible rfl)
            case' rest45 => try simp only [Act.put, List.setIfInBounds_toArray, List.set_cons_zero, List.set_cons_succ]
            refine Drawn.take (i := 11) (d := some 40) (v := ?v46) rfl rfl (by kernel_rfl) (by kernel_rfl) (by kernel_rfl) (fun _ _ _ h => h) (by rfl) ?hy46 (by assumption) ?rest46
            case hy46 => (intro w hSw; (try dsimp only at hSw); go_simp; try with_reducible rfl)
            case' rest46 => try simp only [Act.put, List.setIfInBounds_toArray, List.set_cons_zero, List.set_cons_succ]
            refine wpAnyH_ready (rs := [12]) (by kernel_rfl) (by simp) ?_
            refine AllReadyH.cons rfl (fun K hK => ?_) AllReadyH.nil
            go_simp
            go_at_call 48
            refine (wiV _ _ _ _ _ hps.out).mono ?_
            rintro e w3 ⟨rfl, rfl⟩
            go_wp2_with fail
            refine hK.out _ _ (by (try dsimp only); exact ⟨k2, k8⟩) (fun hHeld => ?_)
            clear hK K
            try simp only [Act.put, List.setIfInBounds_toArray, List.set_cons_zero, List.set_cons_succ]
            refine Drawn.take (i := 13) (d := some 42) (v := ?v47) rfl rfl (by kernel_rfl) (by kernel_rfl) (by kernel_rfl) (fun _ _ _ h => h) (by rfl) ?hy47 (by assumption) ?rest47
            case hy47 => (intro w hSw; (try dsimp only at hSw); go_simp; try with_reducible rfl)
            case' rest47 => try simp only [Act.put, List.setIfInBounds_toArray, List.set_cons_zero, List.set_cons_succ]
            refine Drawn.take (i := 14) (d := some 43) (v := ?v48) rfl rfl (by kernel_rfl) (by kernel_rfl) (by kernel_rfl) (fun _ _ _ h => h) (by rfl) ?hy48 (by assumption) ?rest48
            case hy48 => (intro w hSw; (try dsimp only at hSw); go_simp; try with_reducible rfl)
            case' rest48 => try simp only [Act.put, List.setIfInBounds_toArray, List.set_cons_zero, List.set_cons_succ]
            refine Drawn.take (i := 15) (d := some 44) (v := ?v49) rfl rfl (by kernel_rfl) (by kernel_rfl) (by kernel_rfl) (fun _ _ _ h => h) (by rfl) ?hy49 (by assumption) ?rest49
            case hy49 => (intro w hSw; (try dsimp only at hSw); go_simp; try with_reducible rfl)
            case' rest49 => try simp only [Act.put, List.setIfInBounds_toArray, List.set_cons_zero, List.set_cons_succ]
            refine Drawn.take (i := 16) (d := some 45) (v := ?v50) rfl rfl (by kernel_rfl) (by kernel_rfl) (by kernel_rfl) (fun _ _ _ h => h) (by rfl) ?hy50 (by assumption) ?rest50
            case hy50 => (intro w hSw; (try dsimp only at hSw); go_simp; try with_reducible rfl)
            case' rest50 => try simp only [Act.put, List.setIfInBounds_toArray, List.set_cons_zero, List.set_cons_succ]
            refine Drawn.take (i := 17) (d := some 46) (v := ?v51) rfl rfl (by kernel_rfl) (by kernel_rfl) (by kernel_rfl) (fun _ _ _ h => h) (by rfl) ?hy51 (by assumption) ?rest51
            case hy51 => (intro w hSw; (try dsimp only at hSw); go_simp; try with_reducible rfl)
            case' rest51 => try simp only [Act.put, List.setIfInBounds_toArray, List.set_cons_zero, List.set_cons_succ]
            refine Drawn.take (i := 18) (d := some 47) (v := ?v52) rfl rfl (by kernel_rfl) (by kernel_rfl) (by kernel_rfl) (fun _ _ _ h => h) (by rfl) ?hy52 (by assumption) ?rest52
            case hy52 => (intro w hSw; (try dsimp only at hSw); go_simp; try with_reducible rfl)
            case' rest52 => try simp only [Act.put, List.setIfInBounds_toArray, List.set_cons_zero, List.set_cons_succ]
            refine Drawn.take (i := 19) (d := some 48) (v := ?v53) rfl rfl (by kernel_rfl) (by kernel_rfl) (by kernel_rfl) (fun _ _ _ h => h) (by rfl) ?hy53 (by assumption) ?rest53
            case hy53 => (intro w hSw; (try dsimp only at hSw); go_simp; try with_reducible rfl)
            case' rest53 => try simp only [Act.put, List.setIfInBounds_toArray, List.set_cons_zero, List.set_cons_succ]
            refine wpAnyH_ready (rs := [20]) (by kernel_rfl) (by simp) ?_
            refine AllReadyH.cons rfl (fun K hK => ?_) AllReadyH.nil
            go_simp
            go_at_call 50
            refine (slotsV _ t.params Z _ (htW.next hbW) (by omega) hS.out).mono ?_
            rintro e w4 ⟨rfl, rfl⟩
            go_wp2_with fail
            refine hK.out _ _ (by (try dsimp only); exact ⟨k2, k8⟩) (fun hHeld => ?_)
            clear hK K
            try simp only [Act.put, List.setIfInBounds_toArray, List.set_cons_zero, List.set_cons_succ]
            refine wpAnyH_ready (rs := [21]) (by kernel_rfl) (by simp) ?_
            refine AllReadyH.cons rfl (fun K hK => ?_) AllReadyH.nil
            go_simp
            go_at_call 48
            refine (wiV _ _ _ _ _ hpl.out).mono ?_
            rintro e w5 ⟨rfl, rfl⟩
            go_wp2_with fail
            refine hK.out _ _ (by (try dsimp only); exact ⟨k2, k8⟩) (fun hHeld => ?_)
            clear hK K
            try simp only [Act.put, List.setIfInBounds_toArray, List.set_cons_zero, List.set_cons_succ]
            refine Drawn.take (i := 22) (d := some 51) (v := ?v54) rfl rfl (by kernel_rfl) (by kernel_rfl) (by kernel_rfl) (fun _ _ _ h => h) (by rfl) ?hy54 (by assumption) ?rest54
            case hy54 => (intro w hSw; (try dsimp only at hSw); go_simp; try with_reducible rfl)
            case' rest54 => try simp only [Act.put, List.setIfInBounds_toArray, List.set_cons_zero, List.set_cons_succ]
            refine Drawn.take (i := 23) (d := some 52) (v := ?v55) rfl rfl (by kernel_rfl) (by kernel_rfl) (by kernel_rfl) (fun _ _ _ h => h) (by rfl) ?hy55 (by assumption) ?rest55
            case hy55 => (intro w hSw; (try dsimp only at hSw); go_simp; try with_reducible rfl)
            case' rest55 => try simp only [Act.put, List.setIfInBounds_toArray, List.set_cons_zero, List.set_cons_succ]
            refine wpAnyH_done (by kernel_rfl) ?_ _
            have hbX2 : Below w.heap.size w w2 := hbw.trans (hbW.mono hbs)
            have hbX3 := hbX2.size
            have hbX4 := hbW.size
            have hlo1 : Form.rng t.locals (Form.slots t.params) 61 = pl := by rw [hS.out, ← hpl.out, within_rng]; rfl
            have Hlo := Lib.hid hlo1
            clear hlo1
            cases pl
            · go_wp2
              go_ret
              exact ⟨ret_bool (by rw [hall0.out]; simp [hno.out (sme_locals Hlo.out)]), hbX2⟩
            · have hloc : 0 ≤ t.locals ∧ t.locals ≤ 60 := by
                have h := Hlo.out
                simp only [Form.rng, decide_eq_true_eq] at h
                omega
              have hregs : Hid (t.regs = 0) := by show t.regs = 0; simpa using hreg
              have hstk : Hid (Form.rng t.stack 0 31 = true) := by have h := hps.out; rw [within_rng] at h; exact h
              clear f1 f2 m0 m1 m2 m3 m4 m5 m6 m7 htW hfW hmW hts0 hreg
              obtain ⟨f1, f2⟩ := k2
              obtain ⟨m0, m1, m2, m3, m4, m5, m6, m7⟩ := k8
              have hw2 : Below wr.heap.size wr w2 := hbr.trans (hbW.mono hbr.size)
              go_wp2_with fail
              obtain ⟨wo, rfl⟩ : ∃ wo : World, wo = wr := ⟨_, rfl⟩
              go_loopw [5] (fun i wr => ∃ j : Nat, j ≤ t.code.length ∧ i = .int .i64 j ∧ Below w2.heap.size w2 wr ∧ Hid (∀ i (h : i < t.code.length), i < j → Form.sins f.classes f.methods.length t.code.length t.locals t.code[i] = true)) (fun i _ => t.code.length - (intOf i).toNat)
              case atStart => exact ⟨0, by omega, rfl, (by repeat' (first | with_reducible exact Below.refl _ _ | with_reducible assumption | exact Nat.le_refl _ | with_reducible refine Go.Proofs.Ytncmhenfgbcihaa.Rd.below_drewN ?_ _ | with_reducible refine Below.alloc ?_ ?_ _ | with_reducible refine Below.setCell ?_ ?_ _ | with_reducible refine Below.drew ?_ | omega | (simp; omega) | (simp; done))), fun j _ h => absurd h (by omega)⟩
              case round =>
                obtain ⟨j, hj, rfl, hr, hall2⟩ := hrel
                have hrs := hr.size
                have hwr3 : Below w.heap.size w wr := hbX2.trans (hr.mono hbX3)
                have hwr4 : Below wo.heap.size wo wr := hw2.trans (hr.mono hw2.size)
                have hwrs3 := hwr3.size
                have n4 : w.heap.size < wr.heap.size := by omega
                have n5 : wo.heap.size < wr.heap.size := by omega
                have c1 := kept hr (by omega) f1
                have c2 := kept hr (by omega) f2
                have c3 := kept hr (by omega) m0
                have c4 := kept hr (by omega) m1
                have c5 := kept hr (by omega) m2
                have c6 := kept hr (by omega) m3
                have c7 := kept hr (by omega) m4
                have c8 := kept hr (by omega) m5
                have c9 := kept hr (by omega) m6
                have c10 := kept hr (by omega) m7
                clear f1 f2 m0 m1 m2 m3 m4 m5 m6 m7
                by_cases hlt2 : j < t.code.length
                · obtain ⟨b2, o2, rfl, hb2', he2⟩ := del j hlt2
                  have hyes2 := Lib.hid (Form.all_step (p := Form.sins f.classes f.methods.length t.code.length t.locals) hall2.out hlt2)
                  have hno2 := Lib.hid (sme_ins (f := f) hlt2)
                  obtain ⟨x, hx⟩ := at_of hlt2
                  rw [hx.out] at he2 hyes2 hno2
                  obtain ⟨g1, g2, g3, g4, g5, oks, va, g6, gargs⟩ := he2
                  have hvi : VIns w w.heap.size (.agg #[.int .i64 x.op, .int .i64 x.a, .int .i64 x.b, .int .i64 x.c, .int .i64 x.n, va]) x := ⟨va, rfl, oks, gargs⟩
                  obtain ⟨aa, acap, rfl, alc, acc, _⟩ := gargs
                  have k1 := kept hwr3 hb2' g1
                  have k2 := kept hwr3 hb2' g2
                  have k3 := kept hwr3 hb2' g3
                  have k4 := kept hwr3 hb2' g4
                  have k5 := kept hwr3 hb2' g5
                  have k6 := kept hwr3 hb2' g6
                  have hI2 : (j : Int) < t.code.length := by omega
                  have hI3 : (0 : Int) ≤ (j : Int) ∧ (j : Int) < t.code.length := ⟨by omega, by omega⟩
                  clear del g1 g2 g3 g4 g5 g6
                  obtain ⟨p, hp⟩ : ∃ p, Hid (Form.sins f.classes f.methods.length t.code.length t.locals x = p) := ⟨_, rfl⟩
                  go_wp2_with fail
                  refine wp_region_held_drew (S := fun w' => (w'.cell? ⟨w.heap.size, 0, none⟩ = some vc ∧ w'.cell? ⟨w.heap.size, 1, none⟩ = some (.slice (some ⟨b, o, none⟩) f.methods.length mcap)) ∧ (w'.cell? ⟨wo.heap.size, 0, none⟩ = some (.slice pa t.params.length pcap) ∧ w'.cell? ⟨wo.heap.size, 1, none⟩ = some (.int .i64 t.ret.kind) ∧ w'.cell? ⟨wo.heap.size, 2, none⟩ = some (.int .i64 t.ret.cls) ∧ w'.cell? ⟨wo.heap.size, 3, none⟩ = some (.int .i64 t.stack) ∧ w'.cell? ⟨wo.heap.size, 4, none⟩ = some (.int .i64 t.locals) ∧ w'.cell? ⟨wo.heap.size, 5, none⟩ = some (.int .i64 t.regs) ∧ w'.cell? ⟨wo.heap.size, 6, none⟩ = some (.slice (some ⟨b2, o2, none⟩) t.code.length dcap) ∧ w'.cell? ⟨wo.heap.size, 7, none⟩ = some (.slice ha t.handlers.length hcap)) ∧ w'.cell? ⟨b2, o2 + j * 6, none⟩ = some (.int .i64 x.op) ∧ w'.cell? ⟨b2, o2 + j * 6 + 1, none⟩ = some (.int .i64 x.a) ∧ w'.cell? ⟨b2, o2 + j * 6 + 2, none⟩ = some (.int .i64 x.b) ∧ w'.cell? ⟨b2, o2 + j * 6 + 3, none⟩ = some (.int .i64 x.c) ∧ w'.cell? ⟨b2, o2 + j * 6 + 4, none⟩ = some (.int .i64 x.n) ∧ w'.cell? ⟨b2, o2 + j * 6 + 5, none⟩ = some (.slice aa x.args.length acap)) (by kernel_rfl) (by (try dsimp only); first | exact ⟨⟨c1, c2⟩, ⟨c3, c4, c5, c6, c7, c8, c9, c10⟩, k1, k2, k3, k4, k5, k6⟩ | go_keep) (fun hHeld => ?_)
                  refine Drawn.take (i := 0) (d := some 60) (v := ?v56) rfl rfl (by kernel_rfl) (by kernel_rfl) (by kernel_rfl) (fun _ _ _ h => h) (by rfl) ?hy56 (by assumption) ?rest56
                  case hy56 => (intro w hSw; (try dsimp only at hSw); go_simp; try with_reducible rfl)
                  case' rest56 => try simp only [Act.put, List.setIfInBounds_toArray, List.set_cons_zero, List.set_cons_succ]
                  refine Drawn.take (i := 1) (d := some 61) (v := ?v57) rfl rfl (by kernel_rfl) (by kernel_rfl) (by kernel_rfl) (fun _ _ _ h => h) (by rfl) ?hy57 (by assumption) ?rest57
                  case hy57 => (intro w hSw; (try dsimp only at hSw); go_simp; try with_reducible rfl)
                  case' rest57 => try simp only [Act.put, List.setIfInBounds_toArray, List.set_cons_zero, List.set_cons_succ]
                  refine Drawn.take (i := 2) (d := some 62) (v := ?v58) rfl rfl (by kernel_rfl) (by kernel_rfl) (by kernel_rfl) (fun _ _ _ h => h) (by rfl) ?hy58 (by assumption) ?rest58
                  case hy58 => (intro w hSw; (try dsimp only at hSw); go_simp; try with_reducible rfl)
                  case' rest58 => try simp only [Act.put, List.setIfInBounds_toArray, List.set_cons_zero, List.set_cons_succ]
                  refine Drawn.take (i := 3) (d := some 63) (v := ?v59) rfl rfl (by kernel_rfl) (by kernel_rfl) (by kernel_rfl) (fun _ _ _ h => h) (by rfl) ?hy59 (by assumption) ?rest59
                  case hy59 => (intro w hSw; (try dsimp only at hSw); go_simp; try with_reducible rfl)
                  case' rest59 => try simp only [Act.put, List.setIfInBounds_toArray, List.set_cons_zero, List.set_cons_succ]
                  refine Drawn.take (i := 4) (d := some 64) (v := ?v60) rfl rfl (by kernel_rfl) (by kernel_rfl) (by kernel_rfl) (fun _ _ _ h => h) (by rfl) ?hy60 (by assumption) ?rest60
                  case hy60 => (intro w hSw; (try dsimp only at hSw); go_simp; try with_reducible rfl)
                  case' rest60 => try simp only [Act.put, List.setIfInBounds_toArray, List.set_cons_zero, List.set_cons_succ]
                  refine Drawn.take (i := 5) (d := some 65) (v := ?v61) rfl rfl (by kernel_rfl) (by kernel_rfl) (by kernel_rfl) (fun _ _ _ h => h) (by rfl) ?hy61 (by assumption) ?rest61
                  case hy61 => (intro w hSw; (try dsimp only at hSw); go_simp; try with_reducible rfl)
                  case' rest61 => try simp only [Act.put, List.setIfInBounds_toArray, List.set_cons_zero, List.set_cons_succ]
                  refine Drawn.take (i := 6) (d := some 66) (v := ?v62) rfl rfl (by kernel_rfl) (by kernel_rfl) (by kernel_rfl) (fun _ _ _ h => h) (by rfl) ?hy62 (by assumption) ?rest62
                  case hy62 => (intro w hSw; (try dsimp only at hSw); go_simp; try with_reducible rfl)
                  case' rest62 => try simp only [Act.put, List.setIfInBounds_toArray, List.set_cons_zero, List.set_cons_succ]
                  refine wpAnyH_ready (rs := [7]) (by kernel_rfl) (by simp) ?_
                  refine AllReadyH.cons rfl (fun K hK => ?_) AllReadyH.nil
                  go_simp
                  go_at_call 51
                  refine (insV f t x p _ _ _ _ hp.out (hf0.mono (hwr3.drew) (by simp; omega)) (hvm.mono (hwr3.drew) (by simp; omega)) (hvi.mono (hwr3.drew) (by simp; omega)) hloc).mono ?_
                  rintro e w6 ⟨rfl, hb6⟩
                  have hw6 : Below wr.heap.size wr w6 := Below.trans (by repeat' (first | with_reducible exact Below.refl _ _ | with_reducible assumption | exact Nat.le_refl _ | with_reducible refine Go.Proofs.Ytncmhenfgbcihaa.Rd.below_drewN ?_ _ | with_reducible refine Below.alloc ?_ ?_ _ | with_reducible refine Below.setCell ?_ ?_ _ | with_reducible refine Below.drew ?_ | omega | (simp; omega) | (simp; done))) (hb6.mono (by simp))
                  have hw7 : Below wo.heap.size wo w6 := hwr4.trans (hw6.mono hwr4.size)
                  go_wp2_with fail
                  refine hK.out _ _ (by (try dsimp only); exact ⟨⟨kept hw6 n4 c1, kept hw6 n4 c2⟩, ⟨kept hw6 n5 c3, kept hw6 n5 c4, kept hw6 n5 c5, kept hw6 n5 c6, kept hw6 n5 c7, kept hw6 n5 c8, kept hw6 n5 c9, kept hw6 n5 c10⟩, kept hw6 (by omega) k1, kept hw6 (by omega) k2, kept hw6 (by omega) k3, kept hw6 (by omega) k4, kept hw6 (by omega) k5, kept hw6 (by omega) k6⟩) (fun hHeld => ?_)
                  clear hK K
                  try simp only [Act.put, List.setIfInBounds_toArray, List.set_cons_zero, List.set_cons_succ]
                  refine Drawn.take (i := 8) (d := some 68) (v := ?v63) rfl rfl (by kernel_rfl) (by kernel_rfl) (by kernel_rfl) (fun _ _ _ h => h) (by rfl) ?hy63 (by assumption) ?rest63
                  case hy63 => (intro w hSw; (try dsimp only at hSw); go_simp; try with_reducible rfl)
                  case' rest63 => try simp only [Act.put, List.setIfInBounds_toArray, List.set_cons_zero, List.set_cons_succ]
                  refine wpAnyH_done (by kernel_rfl) ?_ _
                  cases p
                  · go_wp2_with fail
                    go_ret
                    exact ⟨ret_bool (by rw [hall0.out]; simp [hno.out (hno2.out hp.out)]), hwr3.trans (hw6.mono hwrs3)⟩
                  · go_wp2_with fail
                    refine ⟨?_, ?measure⟩
                    repeat apply Exists.intro
                    refine ⟨?rel, rfl⟩
                    case rel => exact ⟨j + 1, by omega, by go_num, hr.trans (hw6.mono hrs), hyes2.out hp.out⟩
                    case measure => simp [intOf]; omega
                · have hge2 : ¬ (j : Int) < t.code.length := by omega
                  have hh := Lib.hid (hyes.out (sme_yes hph.out hregs.out hstk.out Hlo.out (fun i hi => hall2.out i hi (by omega))))
                  clear del
                  go_wp2_with fail
                  go_roundw
                  case rel => exact ⟨k + 1, by omega, by go_num, hq2.out.trans (hbr.trans (hbW.mono hbr.size) |>.trans (hr.mono (hw2.size)) |>.mono hqs), hh.out⟩
                  case measure => simp [intOf]; omega
    · have hst := Lib.hid (Form.all_of (p := Form.sme f) (fun j hj => hall.out j hj (by omega)))
      clear hall mel
      go_wp2_with fail
      go_ret
      exact ⟨ret_bool (by rw [hall0.out, hst.out]; rfl), hwr⟩
end FormR
end Go.Proofs.Ytncmhenfgbcihaa
