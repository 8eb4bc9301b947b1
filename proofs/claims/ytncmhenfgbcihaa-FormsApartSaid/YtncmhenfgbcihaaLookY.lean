/- The walk through rform.May. -/
import Derived.Test.YtncmhenfgbcihaaLookP
import Derived.Test.YtncmhenfgbcihaaFormY
namespace Go.Proofs.Ytncmhenfgbcihaa
open Go.RowKit
set_option linter.unusedSimpArgs false
set_option linter.unusedVariables false
namespace Look
open Num Rd D HierW FormW

/-- the first k instructions -/
def insTo (f : Fi) (m : Me) (k : Nat) : Bool := (m.code.take k).all (Rform.ins f m)
theorem insTo_succ {f : Fi} {m : Me} {k : Nat} (h : k < m.code.length) : insTo f m (k + 1) = (insTo f m k && Rform.ins f m m.code[k]) := by
  unfold insTo; rw [List.take_succ_eq_append_getElem h, List.all_append]; simp
theorem insTo_all (f : Fi) (m : Me) : insTo f m m.code.length = m.code.all (Rform.ins f m) := by unfold insTo; rw [List.take_of_length_le (Nat.le_refl _)]
/-- all but the instructions -/
def pre (f : Fi) (m : Me) : Bool := Form.head f.classes.length m 2400 && decide (m.stack = 0) && decide (m.locals = 0) && Form.rng m.regs (max 1 (Form.slots m.params : Nat)) 91
theorem rme_eq (f : Fi) (m : Me) : Rform.rme f m = (pre f m && insTo f m m.code.length) := by rw [insTo_all]; rfl

set_option maxRecDepth 100000 in
set_option maxHeartbeats 16000000 in
theorem rmay (f : Fi) (vf : Value) (w : World) (hf : VFi w w.heap.size vf f) :
    Calls Try.prog 31 #[vf] w fun e w' => e = .returned (.bool (Rform.rmay f)) ∧ Below w.heap.size w w' := by
  have hf0 := hf
  obtain ⟨vc, vme, rfl, hcs, hms⟩ := hf
  have hcs2 := Lib.hid hcs
  obtain ⟨ca, ccap, rfl, clc, ccc, _⟩ := hcs
  have hms2 := Lib.hid hms
  obtain ⟨ma, mcap, rfl, mlc, mcc, mel⟩ := hms
  obtain ⟨ph, hph⟩ : ∃ p, Hid (Hier.may f.classes = p) := ⟨_, rfl⟩
  obtain ⟨pn, hpn⟩ : ∃ p, Hid (Form.rng f.methods.length 1 9 = p) := ⟨_, rfl⟩
  have hall0 : Hid (Rform.rmay f = (ph && pn && f.methods.all (Rform.rme f))) := by
    show _ = _
    rw [← hph.out, ← hpn.out]; rfl
  cases ph <;> cases pn
  all_goals go_enter Try.func31, Try.ntmps31
  all_goals go_wp2_with (first
    | (go_at_call 16; refine (mayV _ _ _ _ hph.out (Cs.next hcs2.out (by repeat' (first | with_reducible exact Below.refl _ _ | with_reducible assumption | exact Nat.le_refl _ | with_reducible refine Go.Proofs.Ytncmhenfgbcihaa.Rd.below_drewN ?_ _ | with_reducible refine Below.alloc ?_ ?_ _ | with_reducible refine Below.setCell ?_ ?_ _ | with_reducible refine Below.drew ?_ | omega | (simp; omega) | (simp; done))))).mono ?_; rintro e w1 ⟨rfl, hb1⟩; have hw1 : Below w.heap.size w w1 := Below.trans (by repeat' (first | with_reducible exact Below.refl _ _ | with_reducible assumption | exact Nat.le_refl _ | with_reducible refine Go.Proofs.Ytncmhenfgbcihaa.Rd.below_drewN ?_ _ | with_reducible refine Below.alloc ?_ ?_ _ | with_reducible refine Below.setCell ?_ ?_ _ | with_reducible refine Below.drew ?_ | omega | (simp; omega) | (simp; done))) (hb1.mono (by simp)); have y0 : w1.cell? ⟨w.heap.size, 0, none⟩ = some (.slice ca f.classes.length ccap) := kept hb1 (by simp) (by go_simp); have y1 : w1.cell? ⟨w.heap.size, 1, none⟩ = some (.slice ma f.methods.length mcap) := kept hb1 (by simp) (by go_simp))
    | (go_at_call 52; refine (linV _ _ _ _ _ hpn.out).mono ?_; rintro e w2 ⟨rfl, rfl⟩))
  all_goals first
    | (go_ret
       exact ⟨ret_bool (by rw [hall0.out]; simp), hw1⟩)
    | skip
  have hws := hw1.size
  have nn : w.heap.size < w1.heap.size := by have := lt_cell y0; omega
  go_loopw [22] (fun i wr => ∃ k : Nat, k ≤ f.methods.length ∧ i = .int .i64 k ∧ Below w1.heap.size w1 wr ∧ Hid (∀ j (h : j < f.methods.length), j < k → Rform.rme f f.methods[j] = true)) (fun i _ => f.methods.length - (intOf i).toNat)
  case atStart => exact ⟨0, by omega, rfl, (by repeat' (first | with_reducible exact Below.refl _ _ | with_reducible assumption | exact Nat.le_refl _ | with_reducible refine Go.Proofs.Ytncmhenfgbcihaa.Rd.below_drewN ?_ _ | with_reducible refine Below.alloc ?_ ?_ _ | with_reducible refine Below.setCell ?_ ?_ _ | with_reducible refine Below.drew ?_ | omega | (simp; omega) | (simp; done))), fun j _ h => absurd h (by omega)⟩
  case round =>
    obtain ⟨k, hk, rfl, hq, hall⟩ := hrel
    have hqs := hq.size
    have hwr : Below w.heap.size w wr := hw1.trans (hq.mono hws)
    have hwrs := hwr.size
    have n3 : w.heap.size < wr.heap.size := by omega
    have c1 := kept hq (by omega) y0
    have c2 := kept hq (by omega) y1
    clear y0 y1
    by_cases hlt : k < f.methods.length
    · obtain ⟨b, o, rfl, hb, he⟩ := mel k hlt
      have hyes := Lib.hid (Form.all_step (p := Rform.rme f) hall.out hlt)
      have hno := Lib.hid (Form.all_not (p := Rform.rme f) hlt)
      obtain ⟨t, ht⟩ := at_of hlt
      rw [ht.out] at he hyes hno
      obtain ⟨vp, vd, vh, g0, g1, g2, g3, g4, g5, g6, g7, oks, s1, s2, s3⟩ := he
      have hvm : VMe w w.heap.size (.agg #[vp, .int .i64 t.ret.kind, .int .i64 t.ret.cls, .int .i64 t.stack, .int .i64 t.locals, .int .i64 t.regs, vd, vh]) t := ⟨vp, vd, vh, rfl, oks, s1, s2, s3⟩
      obtain ⟨pa, pcap, rfl, plc, pcc, pel⟩ := s1
      have hts0 : Ts w (.slice pa t.params.length pcap) t.params := ⟨pa, pcap, rfl, plc, pcc, pel⟩
      clear pel
      obtain ⟨da, dcap, rfl, dlc, dcc, del⟩ := s2
      obtain ⟨ha, hcap, rfl, _, _, _⟩ := s3
      have k0 := kept hwr hb g0
      have k1 := kept hwr hb g1
      have k2 := kept hwr hb g2
      have k3 := kept hwr hb g3
      have k4 := kept hwr hb g4
      have k5 := kept hwr hb g5
      have k6 := kept hwr hb g6
      have k7 := kept hwr hb g7
      have hq2 := Lib.hid hq
      have hwr2 := Lib.hid hwr
      have ok5 := oks.2.2.2.2
      have ok4 := oks.2.2.2.1
      have ok3 := oks.2.2.1
      have okr := Lib.hid oks.1
      unfold Ok at ok5 ok4 ok3
      have hltI : (k : Int) < f.methods.length := by omega
      clear g0 g1 g2 g3 g4 g5 g6 g7 oks
      go_wp2_with fail
      refine name_world (fun W => Below w.heap.size w W ∧ Below wr.heap.size wr W ∧ wr.heap.size + 1 ≤ W.heap.size ∧ B2 W w.heap.size (.slice ca f.classes.length ccap) (.slice (some ⟨b, o, none⟩) f.methods.length mcap) ∧ B8 W wr.heap.size (.slice pa t.params.length pcap) (.int .i64 t.ret.kind) (.int .i64 t.ret.cls) (.int .i64 t.stack) (.int .i64 t.locals) (.int .i64 t.regs) (.slice da t.code.length dcap) (.slice ha t.handlers.length hcap)) ?_ ?_
      · refine ⟨(by repeat' (first | with_reducible exact Below.refl _ _ | with_reducible assumption | exact Nat.le_refl _ | with_reducible refine Go.Proofs.Ytncmhenfgbcihaa.Rd.below_drewN ?_ _ | with_reducible refine Below.alloc ?_ ?_ _ | with_reducible refine Below.setCell ?_ ?_ _ | with_reducible refine Below.drew ?_ | omega | (simp; omega) | (simp; done))), (by repeat' (first | with_reducible exact Below.refl _ _ | with_reducible assumption | exact Nat.le_refl _ | with_reducible refine Go.Proofs.Ytncmhenfgbcihaa.Rd.below_drewN ?_ _ | with_reducible refine Below.alloc ?_ ?_ _ | with_reducible refine Below.setCell ?_ ?_ _ | with_reducible refine Below.drew ?_ | omega | (simp; omega) | (simp; done))), ?_, ⟨?_, ?_⟩, ⟨?_, ?_, ?_, ?_, ?_, ?_, ?_, ?_⟩⟩
        all_goals go_simp
      rintro W ⟨hbw, hbr, hsz, ⟨f1, f2⟩, ⟨m0, m1, m2, m3, m4, m5, m6, m7⟩⟩
      have hbs := hbw.size
      have hfW := hf0.mono hbw hbs
      have hmW := hvm.mono hbw hbs
      have htW := hts0.next hbw
      clear c1 c2 k0 k1 k2 k3 k4 k5 k6 k7 mel
      obtain ⟨ph, hph⟩ : ∃ p, Hid (Form.head f.classes.length t 2400 = p) := ⟨_, rfl⟩
      obtain ⟨Z, hS⟩ : ∃ S, Hid (Form.slots t.params = S) := ⟨_, rfl⟩
      obtain ⟨MX, hMX⟩ : ∃ x, Hid ((if (1 : Int) < (Z : Int) then (Z : Int) else 1) = x) := ⟨_, rfl⟩
      obtain ⟨pl, hpl⟩ : ∃ p, Hid (Form.rng t.regs MX 91 = p) := ⟨_, rfl⟩
      have hMX1 : 1 ≤ MX := by rw [← hMX.out]; split <;> omega
      have hpre : Hid (pre f t = (ph && decide (t.stack = 0) && decide (t.locals = 0) && pl)) := by
        show _ = _
        have hmx : (if (1 : Int) < (Z : Int) then (Z : Int) else 1) = max 1 (Z : Int) := by
          rw [Int.max_def]; split <;> split <;> omega
        rw [← hph.out, ← hpl.out, ← hMX.out, hmx, ← hS.out]; rfl
      cases ph
      ·
        refine wp_region_held_drew (S := fun w' => (w'.cell? ⟨w.heap.size, 0, none⟩ = some (.slice ca f.classes.length ccap) ∧ w'.cell? ⟨w.heap.size, 1, none⟩ = some (.slice (some ⟨b, o, none⟩) f.methods.length mcap)) ∧ w'.cell? ⟨wr.heap.size, 0, none⟩ = some (.slice pa t.params.length pcap) ∧ w'.cell? ⟨wr.heap.size, 1, none⟩ = some (.int .i64 t.ret.kind) ∧ w'.cell? ⟨wr.heap.size, 2, none⟩ = some (.int .i64 t.ret.cls) ∧ w'.cell? ⟨wr.heap.size, 3, none⟩ = some (.int .i64 t.stack) ∧ w'.cell? ⟨wr.heap.size, 4, none⟩ = some (.int .i64 t.locals) ∧ w'.cell? ⟨wr.heap.size, 5, none⟩ = some (.int .i64 t.regs) ∧ w'.cell? ⟨wr.heap.size, 6, none⟩ = some (.slice da t.code.length dcap) ∧ w'.cell? ⟨wr.heap.size, 7, none⟩ = some (.slice ha t.handlers.length hcap)) (by kernel_rfl) (by (try dsimp only); first | exact ⟨⟨f1, f2⟩, m0, m1, m2, m3, m4, m5, m6, m7⟩ | go_keep) (fun hHeld => ?_)
        refine Drawn.take (i := 0) (d := some 26) (v := ?v0) rfl rfl (by kernel_rfl) (by kernel_rfl) (by kernel_rfl) (fun _ _ _ h => h) (by rfl) ?hy0 (by assumption) ?rest0
        case hy0 => (intro w hSw; (try dsimp only at hSw); go_simp; try with_reducible rfl)
        case' rest0 => try simp only [Act.put, List.setIfInBounds_toArray, List.set_cons_zero, List.set_cons_succ]
        refine Drawn.take (i := 1) (d := some 27) (v := ?v1) rfl rfl (by kernel_rfl) (by kernel_rfl) (by kernel_rfl) (fun _ _ _ h => h) (by rfl) ?hy1 (by assumption) ?rest1
        case hy1 => (intro w hSw; (try dsimp only at hSw); go_simp; try with_reducible rfl)
        case' rest1 => try simp only [Act.put, List.setIfInBounds_toArray, List.set_cons_zero, List.set_cons_succ]
        refine Drawn.take (i := 2) (d := some 28) (v := ?v2) rfl rfl (by kernel_rfl) (by kernel_rfl) (by kernel_rfl) (fun _ _ _ h => h) (by rfl) ?hy2 (by assumption) ?rest2
        case hy2 => (intro w hSw; (try dsimp only at hSw); go_simp; try with_reducible rfl)
        case' rest2 => try simp only [Act.put, List.setIfInBounds_toArray, List.set_cons_zero, List.set_cons_succ]
        refine Drawn.take (i := 3) (d := some 29) (v := ?v3) rfl rfl (by kernel_rfl) (by kernel_rfl) (by kernel_rfl) (fun _ _ _ h => h) (by rfl) ?hy3 (by assumption) ?rest3
        case hy3 => (intro w hSw; (try dsimp only at hSw); go_simp; try with_reducible rfl)
        case' rest3 => try simp only [Act.put, List.setIfInBounds_toArray, List.set_cons_zero, List.set_cons_succ]
        refine wpAnyH_ready (rs := [4]) (by kernel_rfl) (by simp) ?_
        refine AllReadyH.cons rfl (fun K hK => ?_) AllReadyH.nil
        go_simp
        go_at_call 53
        refine (headV f t 2400 _ _ _ _ hph.out (hfW.mono (by repeat' (first | with_reducible exact Below.refl _ _ | with_reducible assumption | exact Nat.le_refl _ | with_reducible refine Go.Proofs.Ytncmhenfgbcihaa.Rd.below_drewN ?_ _ | with_reducible refine Below.alloc ?_ ?_ _ | with_reducible refine Below.setCell ?_ ?_ _ | with_reducible refine Below.drew ?_ | omega | (simp; omega) | (simp; done))) (by simp)) (hmW.mono (by repeat' (first | with_reducible exact Below.refl _ _ | with_reducible assumption | exact Nat.le_refl _ | with_reducible refine Go.Proofs.Ytncmhenfgbcihaa.Rd.below_drewN ?_ _ | with_reducible refine Below.alloc ?_ ?_ _ | with_reducible refine Below.setCell ?_ ?_ _ | with_reducible refine Below.drew ?_ | omega | (simp; omega) | (simp; done))) (by simp)) (by omega)).mono ?_
        rintro e w2 ⟨rfl, hb2⟩
        have hbW : Below W.heap.size W w2 := Below.trans (by repeat' (first | with_reducible exact Below.refl _ _ | with_reducible assumption | exact Nat.le_refl _ | with_reducible refine Go.Proofs.Ytncmhenfgbcihaa.Rd.below_drewN ?_ _ | with_reducible refine Below.alloc ?_ ?_ _ | with_reducible refine Below.setCell ?_ ?_ _ | with_reducible refine Below.drew ?_ | omega | (simp; omega) | (simp; done))) (hb2.mono (by simp))
        have k2 := B2.next ⟨f1, f2⟩ hbW (by omega)
        have k8 := B8.next ⟨m0, m1, m2, m3, m4, m5, m6, m7⟩ hbW (by omega)
        go_wp2_with fail
        refine hK.out _ _ (by (try dsimp only); exact ⟨k2, k8⟩) (fun hHeld => ?_)
        clear hK K
        try simp only [Act.put, List.setIfInBounds_toArray, List.set_cons_zero, List.set_cons_succ]
        refine Drawn.take (i := 5) (d := some 31) (v := ?v4) rfl rfl (by kernel_rfl) (by kernel_rfl) (by kernel_rfl) (fun _ _ _ h => h) (by rfl) ?hy4 (by assumption) ?rest4
        case hy4 => (intro w hSw; (try dsimp only at hSw); go_simp; try with_reducible rfl)
        case' rest4 => try simp only [Act.put, List.setIfInBounds_toArray, List.set_cons_zero, List.set_cons_succ]

        refine Drawn.pass (i := 6) (d := some 32) rfl rfl (by kernel_rfl) (by kernel_rfl) (by kernel_rfl) (fun _ _ _ h => h) (by rfl) (by assumption) ?rest70
        case' rest70 => try simp only [Act.put, List.setIfInBounds_toArray, List.set_cons_zero, List.set_cons_succ]
        refine Drawn.pass (i := 7) (d := some 33) rfl rfl (by kernel_rfl) (by kernel_rfl) (by kernel_rfl) (fun _ _ _ h => h) (by rfl) (by assumption) ?rest71
        case' rest71 => try simp only [Act.put, List.setIfInBounds_toArray, List.set_cons_zero, List.set_cons_succ]
        refine Drawn.pass (i := 8) (d := some 34) rfl rfl (by kernel_rfl) (by kernel_rfl) (by kernel_rfl) (fun _ _ _ h => h) (by rfl) (by assumption) ?rest72
        case' rest72 => try simp only [Act.put, List.setIfInBounds_toArray, List.set_cons_zero, List.set_cons_succ]
        refine Drawn.take (i := 9) (d := some 35) (v := ?v5) rfl rfl (by kernel_rfl) (by kernel_rfl) (by kernel_rfl) (fun _ _ _ h => h) (by rfl) ?hy5 (by assumption) ?rest5
        case hy5 => (intro w hSw; (try dsimp only at hSw); go_simp; try with_reducible rfl)
        case' rest5 => try simp only [Act.put, List.setIfInBounds_toArray, List.set_cons_zero, List.set_cons_succ]
        refine Drawn.take (i := 10) (d := some 36) (v := ?v6) rfl rfl (by kernel_rfl) (by kernel_rfl) (by kernel_rfl) (fun _ _ _ h => h) (by rfl) ?hy6 (by assumption) ?rest6
        case hy6 => (intro w hSw; (try dsimp only at hSw); go_simp; try with_reducible rfl)
        case' rest6 => try simp only [Act.put, List.setIfInBounds_toArray, List.set_cons_zero, List.set_cons_succ]
        refine Drawn.pass (i := 11) (d := some 37) rfl rfl (by kernel_rfl) (by kernel_rfl) (by kernel_rfl) (fun _ _ _ h => h) (by rfl) (by assumption) ?rest73
        case' rest73 => try simp only [Act.put, List.setIfInBounds_toArray, List.set_cons_zero, List.set_cons_succ]
        refine Drawn.pass (i := 12) (d := some 38) rfl rfl (by kernel_rfl) (by kernel_rfl) (by kernel_rfl) (fun _ _ _ h => h) (by rfl) (by assumption) ?rest74
        case' rest74 => try simp only [Act.put, List.setIfInBounds_toArray, List.set_cons_zero, List.set_cons_succ]
        refine Drawn.pass (i := 13) (d := some 39) rfl rfl (by kernel_rfl) (by kernel_rfl) (by kernel_rfl) (fun _ _ _ h => h) (by rfl) (by assumption) ?rest75
        case' rest75 => try simp only [Act.put, List.setIfInBounds_toArray, List.set_cons_zero, List.set_cons_succ]
        refine Drawn.take (i := 14) (d := some 40) (v := ?v7) rfl rfl (by kernel_rfl) (by kernel_rfl) (by kernel_rfl) (fun _ _ _ h => h) (by rfl) ?hy7 (by assumption) ?rest7
        case hy7 => (intro w hSw; (try dsimp only at hSw); go_simp; try with_reducible rfl)
        case' rest7 => try simp only [Act.put, List.setIfInBounds_toArray, List.set_cons_zero, List.set_cons_succ]
        refine Drawn.take (i := 15) (d := some 41) (v := ?v8) rfl rfl (by kernel_rfl) (by kernel_rfl) (by kernel_rfl) (fun _ _ _ h => h) (by rfl) ?hy8 (by assumption) ?rest8
        case hy8 => (intro w hSw; (try dsimp only at hSw); go_simp; try with_reducible rfl)
        case' rest8 => try simp only [Act.put, List.setIfInBounds_toArray, List.set_cons_zero, List.set_cons_succ]
        refine Drawn.pass (i := 16) (d := some 42) rfl rfl (by kernel_rfl) (by kernel_rfl) (by kernel_rfl) (fun _ _ _ h => h) (by rfl) (by assumption) ?rest76
        case' rest76 => try simp only [Act.put, List.setIfInBounds_toArray, List.set_cons_zero, List.set_cons_succ]
        refine Drawn.pass (i := 17) (d := some 43) rfl rfl (by kernel_rfl) (by kernel_rfl) (by kernel_rfl) (fun _ _ _ h => h) (by rfl) (by assumption) ?rest77
        case' rest77 => try simp only [Act.put, List.setIfInBounds_toArray, List.set_cons_zero, List.set_cons_succ]
        refine Drawn.pass (i := 18) (d := some 44) rfl rfl (by kernel_rfl) (by kernel_rfl) (by kernel_rfl) (fun _ _ _ h => h) (by rfl) (by assumption) ?rest78
        case' rest78 => try simp only [Act.put, List.setIfInBounds_toArray, List.set_cons_zero, List.set_cons_succ]
        refine Drawn.pass (i := 19) (d := some 45) rfl rfl (by kernel_rfl) (by kernel_rfl) (by kernel_rfl) (fun _ _ _ h => h) (by rfl) (by assumption) ?rest79
        case' rest79 => try simp only [Act.put, List.setIfInBounds_toArray, List.set_cons_zero, List.set_cons_succ]
        refine Drawn.pass (i := 20) (d := some 46) rfl rfl (by kernel_rfl) (by kernel_rfl) (by kernel_rfl) (fun _ _ _ h => h) (by rfl) (by assumption) ?rest80
        case' rest80 => try simp only [Act.put, List.setIfInBounds_toArray, List.set_cons_zero, List.set_cons_succ]
        refine Drawn.pass (i := 21) (d := some 47) rfl rfl (by kernel_rfl) (by kernel_rfl) (by kernel_rfl) (fun _ _ _ h => h) (by rfl) (by assumption) ?rest81
        case' rest81 => try simp only [Act.put, List.setIfInBounds_toArray, List.set_cons_zero, List.set_cons_succ]
        refine Drawn.pass (i := 22) (d := some 48) rfl rfl (by kernel_rfl) (by kernel_rfl) (by kernel_rfl) (fun _ _ _ h => h) (by rfl) (by assumption) ?rest82
        case' rest82 => try simp only [Act.put, List.setIfInBounds_toArray, List.set_cons_zero, List.set_cons_succ]
        refine Drawn.take (i := 23) (d := some 49) (v := ?v9) rfl rfl (by kernel_rfl) (by kernel_rfl) (by kernel_rfl) (fun _ _ _ h => h) (by rfl) ?hy9 (by assumption) ?rest9
        case hy9 => (intro w hSw; (try dsimp only at hSw); go_simp; try with_reducible rfl)
        case' rest9 => try simp only [Act.put, List.setIfInBounds_toArray, List.set_cons_zero, List.set_cons_succ]
        refine Drawn.take (i := 24) (d := some 50) (v := ?v10) rfl rfl (by kernel_rfl) (by kernel_rfl) (by kernel_rfl) (fun _ _ _ h => h) (by rfl) ?hy10 (by assumption) ?rest10
        case hy10 => (intro w hSw; (try dsimp only at hSw); go_simp; try with_reducible rfl)
        case' rest10 => try simp only [Act.put, List.setIfInBounds_toArray, List.set_cons_zero, List.set_cons_succ]
        refine wpAnyH_ready (rs := [25]) (by kernel_rfl) (by simp) ?_
        refine AllReadyH.cons rfl (fun K hK => ?_) AllReadyH.nil
        go_simp
        refine hK.out _ _ (by (try dsimp only); obtain ⟨kf, km⟩ : (_ ∧ _) := ⟨k2, k8⟩; have := lt_cell kf.1; have := lt_cell km.1; refine ⟨⟨?_, ?_⟩, ?_, ?_, ?_, ?_, ?_, ?_, ?_, ?_⟩ <;> (obtain ⟨kf0, kf1⟩ := kf; obtain ⟨km0, km1, km2, km3, km4, km5, km6, km7⟩ := km; go_simp)) (fun hHeld => ?_)
        clear hK K
        try simp only [Act.put, List.setIfInBounds_toArray, List.set_cons_zero, List.set_cons_succ]
        refine Drawn.take (i := 26) (d := some 5) (v := ?v11) rfl rfl (by kernel_rfl) (by kernel_rfl) (by kernel_rfl) (fun _ _ _ h => h) (by rfl) ?hy11 (by assumption) ?rest11
        case hy11 => (intro w hSw; (try dsimp only at hSw); go_simp; try with_reducible rfl)
        case' rest11 => try simp only [Act.put, List.setIfInBounds_toArray, List.set_cons_zero, List.set_cons_succ]
        refine wpAnyH_done (by kernel_rfl) ?_ _
        have hpt : Hid (pre f t = false) := by
          show _ = _
          rw [hpre.out]; rfl
        have hxs := hbW.size
        refine name_world (fun W2 => Hid (Lk W2 w2.heap.size (.slice ca f.classes.length ccap) (.slice (some ⟨b, o, none⟩) f.methods.length mcap) (.slice pa t.params.length pcap) (.slice da t.code.length dcap) (.slice ha t.handlers.length hcap) t false) ∧ Below w2.heap.size w2 W2 ∧ W2.cell? ⟨wr.heap.size, 6, none⟩ = some (.slice da t.code.length dcap)) ?_ ?_
        · refine ⟨?_, (by repeat' (first | with_reducible exact Below.refl _ _ | with_reducible assumption | exact Nat.le_refl _ | with_reducible refine Go.Proofs.Ytncmhenfgbcihaa.Rd.below_drewN ?_ _ | with_reducible refine Below.alloc ?_ ?_ _ | with_reducible refine Below.setCell ?_ ?_ _ | with_reducible refine Below.drew ?_ | omega | (simp; omega) | (simp; done))), ?_⟩
          · show Lk _ _ _ _ _ _ _ _ _
            refine ⟨⟨?_, ?_⟩, ⟨?_, ?_, ?_, ?_, ?_, ?_, ?_, ?_⟩, ?_, ?_⟩
            all_goals go_simp
          · obtain ⟨kf, km⟩ : (_ ∧ _) := ⟨k2, k8⟩
            have hz := lt_cell km.1
            have km6 := km.2.2.2.2.2.2.1
            clear kf km
            go_simp
        rintro W2 ⟨hlk0, hbl0, m6'⟩
        have hbl1 : Below wr.heap.size wr W2 := (hbr.trans (hbW.mono hbr.size)).trans (hbl0.mono (by have := hbr.size; omega))
        have hbl2 : Below w.heap.size w W2 := hwr2.out.trans (hbl1.mono hwrs)
        have hblw : w.heap.size ≤ w2.heap.size := by have := hbr.size; omega
        have hl6 := lt_cell m6'
        have hlbs := hlk0.out.lt
        have hlbr : wr.heap.size < w2.heap.size := by have := hbr.size; omega
        clear f1 f2 m0 m1 m2 m3 m4 m5 m6 m7 htW hfW hmW hts0 k2 k8
        go_wp2_with fail
        obtain ⟨wo, rfl⟩ : ∃ wo : World, wo = wr := ⟨_, rfl⟩

        go_loopw [55] (fun i wr => ∃ j : Nat, j ≤ t.code.length ∧ i = .int .i64 j ∧ Hid (Lk wr w2.heap.size (.slice ca f.classes.length ccap) (.slice (some ⟨b, o, none⟩) f.methods.length mcap) (.slice pa t.params.length pcap) (.slice da t.code.length dcap) (.slice ha t.handlers.length hcap) t false) ∧ Keep W2.heap.size w2.heap.size W2 wr) (fun i _ => t.code.length - (intOf i).toNat)
        case atStart => exact ⟨0, by omega, rfl, hlk0, Keep.refl _ _ _⟩
        case round =>
          obtain ⟨j, hj, rfl, hlk, hkp⟩ := hrel
          have hks := hkp.size
          have z10 := hlk.out.2.2.1
          have hlz := hlk.out.lt
          by_cases hlt2 : j < t.code.length
          · obtain ⟨b2, o2, rfl, hb2', he2⟩ := del j hlt2
            obtain ⟨x, hx⟩ := at_of hlt2
            rw [hx.out] at he2
            obtain ⟨g1, g2, g3, g4, g5, oks, va, g6, gargs⟩ := he2
            obtain ⟨aa, acap, rfl, alc, acc, _⟩ := gargs
            have h1 := hkp.cell (by omega) (by omega) (kept hbl2 hb2' g1)
            have h2 := hkp.cell (by omega) (by omega) (kept hbl2 hb2' g2)
            have h3 := hkp.cell (by omega) (by omega) (kept hbl2 hb2' g3)
            have h4 := hkp.cell (by omega) (by omega) (kept hbl2 hb2' g4)
            have h5 := hkp.cell (by omega) (by omega) (kept hbl2 hb2' g5)
            have h6 := hkp.cell (by omega) (by omega) (kept hbl2 hb2' g6)
            have hI2 : (0 : Int) ≤ (j : Int) ∧ (j : Int) < t.code.length := ⟨by omega, by omega⟩
            obtain ⟨hI3, hI4⟩ := hI2
            clear del g1 g2 g3 g4 g5 g6
            go_wp2_with fail
            go_roundw
            case rel => exact ⟨j + 1, by omega, by go_num, Lib.hid (hlk.out.next (Below.alloc (Below.refl _ _) (Nat.le_refl _) _) hlk.out.lt), hkp.trans (Keep.alloc (Keep.refl _ _ _) (by omega) _)⟩
            case measure => simp [intOf]; omega
          · have hge2 : ¬ (j : Int) < t.code.length := by omega
            have hkb : Below w.heap.size w wr := hbl2.trans (hkp.below (by omega) (by omega))
            clear del
            go_wp2_with fail
            go_ret
            exact ⟨ret_bool (by rw [hall0.out]; simp [hno.out (by rw [rme_eq, hpt.out]; rfl)]), hkb⟩
      · by_cases hs0 : t.stack = 0
        · have hst0 : (t.stack == 0) = true := by simpa using hs0
          have HS0 := Lib.hid hs0
          clear hs0
          by_cases hl0 : t.locals = 0
          · have hlo0 : (t.locals == 0) = true := by simpa using hl0
            have HL0 := Lib.hid hl0
            clear hl0
            have hp4 : t.params.length ≤ 4 := by
              have h := hph.out
              simp only [Form.head, Bool.and_eq_true, decide_eq_true_eq] at h
              exact h.1.1.1.2
            refine wp_region_held_drew (S := fun w' => (w'.cell? ⟨w.heap.size, 0, none⟩ = some (.slice ca f.classes.length ccap) ∧ w'.cell? ⟨w.heap.size, 1, none⟩ = some (.slice (some ⟨b, o, none⟩) f.methods.length mcap)) ∧ w'.cell? ⟨wr.heap.size, 0, none⟩ = some (.slice pa t.params.length pcap) ∧ w'.cell? ⟨wr.heap.size, 1, none⟩ = some (.int .i64 t.ret.kind) ∧ w'.cell? ⟨wr.heap.size, 2, none⟩ = some (.int .i64 t.ret.cls) ∧ w'.cell? ⟨wr.heap.size, 3, none⟩ = some (.int .i64 t.stack) ∧ w'.cell? ⟨wr.heap.size, 4, none⟩ = some (.int .i64 t.locals) ∧ w'.cell? ⟨wr.heap.size, 5, none⟩ = some (.int .i64 t.regs) ∧ w'.cell? ⟨wr.heap.size, 6, none⟩ = some (.slice da t.code.length dcap) ∧ w'.cell? ⟨wr.heap.size, 7, none⟩ = some (.slice ha t.handlers.length hcap)) (by kernel_rfl) (by (try dsimp only); first | exact ⟨⟨f1, f2⟩, m0, m1, m2, m3, m4, m5, m6, m7⟩ | go_keep) (fun hHeld => ?_)
            refine Drawn.take (i := 0) (d := some 26) (v := ?v12) rfl rfl (by kernel_rfl) (by kernel_rfl) (by kernel_rfl) (fun _ _ _ h => h) (by rfl) ?hy12 (by assumption) ?rest12
            case hy12 => (intro w hSw; (try dsimp only at hSw); go_simp; try with_reducible rfl)
            case' rest12 => try simp only [Act.put, List.setIfInBounds_toArray, List.set_cons_zero, List.set_cons_succ]
            refine Drawn.take (i := 1) (d := some 27) (v := ?v13) rfl rfl (by kernel_rfl) (by kernel_rfl) (by kernel_rfl) (fun _ _ _ h => h) (by rfl) ?hy13 (by assumption) ?rest13
            case hy13 => (intro w hSw; (try dsimp only at hSw); go_simp; try with_reducible rfl)
            case' rest13 => try simp only [Act.put, List.setIfInBounds_toArray, List.set_cons_zero, List.set_cons_succ]
            refine Drawn.take (i := 2) (d := some 28) (v := ?v14) rfl rfl (by kernel_rfl) (by kernel_rfl) (by kernel_rfl) (fun _ _ _ h => h) (by rfl) ?hy14 (by assumption) ?rest14
            case hy14 => (intro w hSw; (try dsimp only at hSw); go_simp; try with_reducible rfl)
            case' rest14 => try simp only [Act.put, List.setIfInBounds_toArray, List.set_cons_zero, List.set_cons_succ]
            refine Drawn.take (i := 3) (d := some 29) (v := ?v15) rfl rfl (by kernel_rfl) (by kernel_rfl) (by kernel_rfl) (fun _ _ _ h => h) (by rfl) ?hy15 (by assumption) ?rest15
            case hy15 => (intro w hSw; (try dsimp only at hSw); go_simp; try with_reducible rfl)
            case' rest15 => try simp only [Act.put, List.setIfInBounds_toArray, List.set_cons_zero, List.set_cons_succ]
            refine wpAnyH_ready (rs := [4]) (by kernel_rfl) (by simp) ?_
            refine AllReadyH.cons rfl (fun K hK => ?_) AllReadyH.nil
            go_simp
            go_at_call 53
            refine (headV f t 2400 _ _ _ _ hph.out (hfW.mono (by repeat' (first | with_reducible exact Below.refl _ _ | with_reducible assumption | exact Nat.le_refl _ | with_reducible refine Go.Proofs.Ytncmhenfgbcihaa.Rd.below_drewN ?_ _ | with_reducible refine Below.alloc ?_ ?_ _ | with_reducible refine Below.setCell ?_ ?_ _ | with_reducible refine Below.drew ?_ | omega | (simp; omega) | (simp; done))) (by simp)) (hmW.mono (by repeat' (first | with_reducible exact Below.refl _ _ | with_reducible assumption | exact Nat.le_refl _ | with_reducible refine Go.Proofs.Ytncmhenfgbcihaa.Rd.below_drewN ?_ _ | with_reducible refine Below.alloc ?_ ?_ _ | with_reducible refine Below.setCell ?_ ?_ _ | with_reducible refine Below.drew ?_ | omega | (simp; omega) | (simp; done))) (by simp)) (by omega)).mono ?_
            rintro e w2 ⟨rfl, hb2⟩
            have hbW : Below W.heap.size W w2 := Below.trans (by repeat' (first | with_reducible exact Below.refl _ _ | with_reducible assumption | exact Nat.le_refl _ | with_reducible refine Go.Proofs.Ytncmhenfgbcihaa.Rd.below_drewN ?_ _ | with_reducible refine Below.alloc ?_ ?_ _ | with_reducible refine Below.setCell ?_ ?_ _ | with_reducible refine Below.drew ?_ | omega | (simp; omega) | (simp; done))) (hb2.mono (by simp))
            have k2 := B2.next ⟨f1, f2⟩ hbW (by omega)
            have k8 := B8.next ⟨m0, m1, m2, m3, m4, m5, m6, m7⟩ hbW (by omega)
            go_wp2_with fail
            refine hK.out _ _ (by (try dsimp only); exact ⟨k2, k8⟩) (fun hHeld => ?_)
            clear hK K
            try simp only [Act.put, List.setIfInBounds_toArray, List.set_cons_zero, List.set_cons_succ]
            refine Drawn.take (i := 5) (d := some 31) (v := ?v16) rfl rfl (by kernel_rfl) (by kernel_rfl) (by kernel_rfl) (fun _ _ _ h => h) (by rfl) ?hy16 (by assumption) ?rest16
            case hy16 => (intro w hSw; (try dsimp only at hSw); go_simp; try with_reducible rfl)
            case' rest16 => try simp only [Act.put, List.setIfInBounds_toArray, List.set_cons_zero, List.set_cons_succ]

            refine Drawn.take (i := 6) (d := some 32) (v := ?v17) rfl rfl (by kernel_rfl) (by kernel_rfl) (by kernel_rfl) (fun _ _ _ h => h) (by rfl) ?hy17 (by assumption) ?rest17
            case hy17 => (intro w hSw; (try dsimp only at hSw); go_simp; try with_reducible rfl)
            case' rest17 => try simp only [Act.put, List.setIfInBounds_toArray, List.set_cons_zero, List.set_cons_succ]
            refine Drawn.take (i := 7) (d := some 33) (v := ?v18) rfl rfl (by kernel_rfl) (by kernel_rfl) (by kernel_rfl) (fun _ _ _ h => h) (by rfl) ?hy18 (by assumption) ?rest18
            case hy18 => (intro w hSw; (try dsimp only at hSw); go_simp; try with_reducible rfl)
            case' rest18 => try simp only [Act.put, List.setIfInBounds_toArray, List.set_cons_zero, List.set_cons_succ]
            refine Drawn.take (i := 8) (d := some 34) (v := ?v19) rfl rfl (by kernel_rfl) (by kernel_rfl) (by kernel_rfl) (fun _ _ _ h => h) (by rfl) ?hy19 (by assumption) ?rest19
            case hy19 => (intro w hSw; (try dsimp only at hSw); go_simp; try with_reducible rfl)
            case' rest19 => try simp only [Act.put, List.setIfInBounds_toArray, List.set_cons_zero, List.set_cons_succ]
            refine Drawn.take (i := 9) (d := some 35) (v := ?v20) rfl rfl (by kernel_rfl) (by kernel_rfl) (by kernel_rfl) (fun _ _ _ h => h) (by rfl) ?hy20 (by assumption) ?rest20
            case hy20 => (intro w hSw; (try dsimp only at hSw); go_simp; try with_reducible rfl)
            case' rest20 => try simp only [Act.put, List.setIfInBounds_toArray, List.set_cons_zero, List.set_cons_succ]
            refine Drawn.take (i := 10) (d := some 36) (v := ?v21) rfl rfl (by kernel_rfl) (by kernel_rfl) (by kernel_rfl) (fun _ _ _ h => h) (by rfl) ?hy21 (by assumption) ?rest21
            case hy21 => (intro w hSw; (try dsimp only at hSw); go_simp; try with_reducible rfl)
            case' rest21 => try simp only [Act.put, List.setIfInBounds_toArray, List.set_cons_zero, List.set_cons_succ]
            refine Drawn.take (i := 11) (d := some 37) (v := ?v22) rfl rfl (by kernel_rfl) (by kernel_rfl) (by kernel_rfl) (fun _ _ _ h => h) (by rfl) ?hy22 (by assumption) ?rest22
            case hy22 => (intro w hSw; (try dsimp only at hSw); go_simp; try with_reducible rfl)
            case' rest22 => try simp only [Act.put, List.setIfInBounds_toArray, List.set_cons_zero, List.set_cons_succ]
            refine Drawn.take (i := 12) (d := some 38) (v := ?v23) rfl rfl (by kernel_rfl) (by kernel_rfl) (by kernel_rfl) (fun _ _ _ h => h) (by rfl) ?hy23 (by assumption) ?rest23
            case hy23 => (intro w hSw; (try dsimp only at hSw); go_simp; try with_reducible rfl)
            case' rest23 => try simp only [Act.put, List.setIfInBounds_toArray, List.set_cons_zero, List.set_cons_succ]
            refine Drawn.take (i := 13) (d := some 39) (v := ?v24) rfl rfl (by kernel_rfl) (by kernel_rfl) (by kernel_rfl) (fun _ _ _ h => h) (by rfl) ?hy24 (by assumption) ?rest24
            case hy24 => (intro w hSw; (try dsimp only at hSw); go_simp; try with_reducible rfl)
            case' rest24 => try simp only [Act.put, List.setIfInBounds_toArray, List.set_cons_zero, List.set_cons_succ]
            refine Drawn.take (i := 14) (d := some 40) (v := ?v25) rfl rfl (by kernel_rfl) (by kernel_rfl) (by kernel_rfl) (fun _ _ _ h => h) (by rfl) ?hy25 (by assumption) ?rest25
            case hy25 => (intro w hSw; (try dsimp only at hSw); go_simp; try with_reducible rfl)
            case' rest25 => try simp only [Act.put, List.setIfInBounds_toArray, List.set_cons_zero, List.set_cons_succ]
            refine Drawn.take (i := 15) (d := some 41) (v := ?v26) rfl rfl (by kernel_rfl) (by kernel_rfl) (by kernel_rfl) (fun _ _ _ h => h) (by rfl) ?hy26 (by assumption) ?rest26
            case hy26 => (intro w hSw; (try dsimp only at hSw); go_simp; try with_reducible rfl)
            case' rest26 => try simp only [Act.put, List.setIfInBounds_toArray, List.set_cons_zero, List.set_cons_succ]
            refine Drawn.take (i := 16) (d := some 42) (v := ?v27) rfl rfl (by kernel_rfl) (by kernel_rfl) (by kernel_rfl) (fun _ _ _ h => h) (by rfl) ?hy27 (by assumption) ?rest27
            case hy27 => (intro w hSw; (try dsimp only at hSw); go_simp; try with_reducible rfl)
            case' rest27 => try simp only [Act.put, List.setIfInBounds_toArray, List.set_cons_zero, List.set_cons_succ]
            refine Drawn.take (i := 17) (d := some 43) (v := ?v28) rfl rfl (by kernel_rfl) (by kernel_rfl) (by kernel_rfl) (fun _ _ _ h => h) (by rfl) ?hy28 (by assumption) ?rest28
            case hy28 => (intro w hSw; (try dsimp only at hSw); go_simp; try with_reducible rfl)
            case' rest28 => try simp only [Act.put, List.setIfInBounds_toArray, List.set_cons_zero, List.set_cons_succ]
            refine Drawn.take (i := 18) (d := some 44) (v := ?v29) rfl rfl (by kernel_rfl) (by kernel_rfl) (by kernel_rfl) (fun _ _ _ h => h) (by rfl) ?hy29 (by assumption) ?rest29
            case hy29 => (intro w hSw; (try dsimp only at hSw); go_simp; try with_reducible rfl)
            case' rest29 => try simp only [Act.put, List.setIfInBounds_toArray, List.set_cons_zero, List.set_cons_succ]
            refine Drawn.take (i := 19) (d := some 45) (v := ?v30) rfl rfl (by kernel_rfl) (by kernel_rfl) (by kernel_rfl) (fun _ _ _ h => h) (by rfl) ?hy30 (by assumption) ?rest30
            case hy30 => (intro w hSw; (try dsimp only at hSw); go_simp; try with_reducible rfl)
            case' rest30 => try simp only [Act.put, List.setIfInBounds_toArray, List.set_cons_zero, List.set_cons_succ]
            refine wpAnyH_ready (rs := [20]) (by kernel_rfl) (by simp) ?_
            refine AllReadyH.cons rfl (fun K hK => ?_) AllReadyH.nil
            go_simp
            go_at_call 54
            refine (slotsV _ t.params Z _ (htW.next hbW) (by omega) hS.out).mono ?_
            rintro e w4 ⟨rfl, hb4⟩
            have hbX : Below W.heap.size W w4 := hbW.trans (hb4.mono hbW.size)
            have x2 := B2.next ⟨f1, f2⟩ hbX (by omega)
            have x8 := B8.next ⟨m0, m1, m2, m3, m4, m5, m6, m7⟩ hbX (by omega)
            go_wp2_with fail
            refine hK.out _ _ (by (try dsimp only); exact ⟨x2, x8⟩) (fun hHeld => ?_)
            clear hK K
            try simp only [Act.put, List.setIfInBounds_toArray, List.set_cons_zero, List.set_cons_succ]
            have hif := hMX.out
            refine Drawn.take (i := 21) (d := some 47) (v := ?v31) rfl rfl (by kernel_rfl) (by kernel_rfl) (by kernel_rfl) (fun _ _ _ h => h) (by rfl) ?hy31 (by assumption) ?rest31
            case hy31 => (intro w hSw; (try dsimp only at hSw); go_simp; try with_reducible rfl)
            case' rest31 => try simp only [Act.put, List.setIfInBounds_toArray, List.set_cons_zero, List.set_cons_succ]
            clear hif
            refine wpAnyH_ready (rs := [22]) (by kernel_rfl) (by simp) ?_
            refine AllReadyH.cons rfl (fun K hK => ?_) AllReadyH.nil
            go_simp
            go_at_call 52
            refine (linV _ _ _ _ _ hpl.out).mono ?_
            rintro e w5 ⟨rfl, rfl⟩
            go_wp2_with fail
            refine hK.out _ _ (by (try dsimp only); exact ⟨x2, x8⟩) (fun hHeld => ?_)
            clear hK K
            try simp only [Act.put, List.setIfInBounds_toArray, List.set_cons_zero, List.set_cons_succ]
            refine Drawn.take (i := 23) (d := some 49) (v := ?v32) rfl rfl (by kernel_rfl) (by kernel_rfl) (by kernel_rfl) (fun _ _ _ h => h) (by rfl) ?hy32 (by assumption) ?rest32
            case hy32 => (intro w hSw; (try dsimp only at hSw); go_simp; try with_reducible rfl)
            case' rest32 => try simp only [Act.put, List.setIfInBounds_toArray, List.set_cons_zero, List.set_cons_succ]
            have hbX3 := hbX.size
            cases pl
            ·
              refine Drawn.take (i := 24) (d := some 50) (v := ?v33) rfl rfl (by kernel_rfl) (by kernel_rfl) (by kernel_rfl) (fun _ _ _ h => h) (by rfl) ?hy33 (by assumption) ?rest33
              case hy33 => (intro w hSw; (try dsimp only at hSw); go_simp; try with_reducible rfl)
              case' rest33 => try simp only [Act.put, List.setIfInBounds_toArray, List.set_cons_zero, List.set_cons_succ]
              refine wpAnyH_ready (rs := [25]) (by kernel_rfl) (by simp) ?_
              refine AllReadyH.cons rfl (fun K hK => ?_) AllReadyH.nil
              go_simp
              refine hK.out _ _ (by (try dsimp only); obtain ⟨kf, km⟩ : (_ ∧ _) := ⟨x2, x8⟩; have := lt_cell kf.1; have := lt_cell km.1; refine ⟨⟨?_, ?_⟩, ?_, ?_, ?_, ?_, ?_, ?_, ?_, ?_⟩ <;> (obtain ⟨kf0, kf1⟩ := kf; obtain ⟨km0, km1, km2, km3, km4, km5, km6, km7⟩ := km; go_simp)) (fun hHeld => ?_)
              clear hK K
              try simp only [Act.put, List.setIfInBounds_toArray, List.set_cons_zero, List.set_cons_succ]
              refine Drawn.take (i := 26) (d := some 5) (v := ?v34) rfl rfl (by kernel_rfl) (by kernel_rfl) (by kernel_rfl) (fun _ _ _ h => h) (by rfl) ?hy34 (by assumption) ?rest34
              case hy34 => (intro w hSw; (try dsimp only at hSw); go_simp; try with_reducible rfl)
              case' rest34 => try simp only [Act.put, List.setIfInBounds_toArray, List.set_cons_zero, List.set_cons_succ]
              refine wpAnyH_done (by kernel_rfl) ?_ _

              have hpt : Hid (pre f t = false) := by
                show _ = _
                rw [hpre.out]; simp
              have hxs := hbX.size
              refine name_world (fun W2 => Hid (Lk W2 w4.heap.size (.slice ca f.classes.length ccap) (.slice (some ⟨b, o, none⟩) f.methods.length mcap) (.slice pa t.params.length pcap) (.slice da t.code.length dcap) (.slice ha t.handlers.length hcap) t false) ∧ Below w4.heap.size w4 W2 ∧ W2.cell? ⟨wr.heap.size, 6, none⟩ = some (.slice da t.code.length dcap)) ?_ ?_
              · refine ⟨?_, (by repeat' (first | with_reducible exact Below.refl _ _ | with_reducible assumption | exact Nat.le_refl _ | with_reducible refine Go.Proofs.Ytncmhenfgbcihaa.Rd.below_drewN ?_ _ | with_reducible refine Below.alloc ?_ ?_ _ | with_reducible refine Below.setCell ?_ ?_ _ | with_reducible refine Below.drew ?_ | omega | (simp; omega) | (simp; done))), ?_⟩
                · show Lk _ _ _ _ _ _ _ _ _
                  refine ⟨⟨?_, ?_⟩, ⟨?_, ?_, ?_, ?_, ?_, ?_, ?_, ?_⟩, ?_, ?_⟩
                  all_goals go_simp
                · obtain ⟨kf, km⟩ : (_ ∧ _) := ⟨x2, x8⟩
                  have hz := lt_cell km.1
                  have km6 := km.2.2.2.2.2.2.1
                  clear kf km
                  go_simp
              rintro W2 ⟨hlk0, hbl0, m6'⟩
              have hbl1 : Below wr.heap.size wr W2 := (hbr.trans (hbX.mono hbr.size)).trans (hbl0.mono (by have := hbr.size; omega))
              have hbl2 : Below w.heap.size w W2 := hwr2.out.trans (hbl1.mono hwrs)
              have hblw : w.heap.size ≤ w4.heap.size := by have := hbr.size; omega
              have hl6 := lt_cell m6'
              have hlbs := hlk0.out.lt
              have hlbr : wr.heap.size < w4.heap.size := by have := hbr.size; omega
              clear f1 f2 m0 m1 m2 m3 m4 m5 m6 m7 htW hfW hmW hts0 k2 k8
              go_wp2_with fail
              obtain ⟨wo, rfl⟩ : ∃ wo : World, wo = wr := ⟨_, rfl⟩

              go_loopw [55] (fun i wr => ∃ j : Nat, j ≤ t.code.length ∧ i = .int .i64 j ∧ Hid (Lk wr w4.heap.size (.slice ca f.classes.length ccap) (.slice (some ⟨b, o, none⟩) f.methods.length mcap) (.slice pa t.params.length pcap) (.slice da t.code.length dcap) (.slice ha t.handlers.length hcap) t false) ∧ Keep W2.heap.size w4.heap.size W2 wr) (fun i _ => t.code.length - (intOf i).toNat)
              case atStart => exact ⟨0, by omega, rfl, hlk0, Keep.refl _ _ _⟩
              case round =>
                obtain ⟨j, hj, rfl, hlk, hkp⟩ := hrel
                have hks := hkp.size
                have z10 := hlk.out.2.2.1
                have hlz := hlk.out.lt
                by_cases hlt2 : j < t.code.length
                · obtain ⟨b2, o2, rfl, hb2', he2⟩ := del j hlt2
                  obtain ⟨x, hx⟩ := at_of hlt2
                  rw [hx.out] at he2
                  obtain ⟨g1, g2, g3, g4, g5, oks, va, g6, gargs⟩ := he2
                  obtain ⟨aa, acap, rfl, alc, acc, _⟩ := gargs
                  have h1 := hkp.cell (by omega) (by omega) (kept hbl2 hb2' g1)
                  have h2 := hkp.cell (by omega) (by omega) (kept hbl2 hb2' g2)
                  have h3 := hkp.cell (by omega) (by omega) (kept hbl2 hb2' g3)
                  have h4 := hkp.cell (by omega) (by omega) (kept hbl2 hb2' g4)
                  have h5 := hkp.cell (by omega) (by omega) (kept hbl2 hb2' g5)
                  have h6 := hkp.cell (by omega) (by omega) (kept hbl2 hb2' g6)
                  have hI2 : (0 : Int) ≤ (j : Int) ∧ (j : Int) < t.code.length := ⟨by omega, by omega⟩
                  obtain ⟨hI3, hI4⟩ := hI2
                  clear del g1 g2 g3 g4 g5 g6
                  go_wp2_with fail
                  go_roundw
                  case rel => exact ⟨j + 1, by omega, by go_num, Lib.hid (hlk.out.next (Below.alloc (Below.refl _ _) (Nat.le_refl _) _) hlk.out.lt), hkp.trans (Keep.alloc (Keep.refl _ _ _) (by omega) _)⟩
                  case measure => simp [intOf]; omega
                · have hge2 : ¬ (j : Int) < t.code.length := by omega
                  have hkb : Below w.heap.size w wr := hbl2.trans (hkp.below (by omega) (by omega))
                  clear del
                  go_wp2_with fail
                  go_ret
                  exact ⟨ret_bool (by rw [hall0.out]; simp [hno.out (by rw [rme_eq, hpt.out]; rfl)]), hkb⟩
            · have hregs : 0 ≤ t.regs ∧ t.regs ≤ 90 := by
                have h := hpl.out
                simp only [Form.rng, decide_eq_true_eq] at h
                omega
              refine Drawn.take (i := 24) (d := some 50) (v := ?v35) rfl rfl (by kernel_rfl) (by kernel_rfl) (by kernel_rfl) (fun _ _ _ h => h) (by rfl) ?hy35 (by assumption) ?rest35
              case hy35 => (intro w hSw; (try dsimp only at hSw); go_simp; try with_reducible rfl)
              case' rest35 => try simp only [Act.put, List.setIfInBounds_toArray, List.set_cons_zero, List.set_cons_succ]
              refine wpAnyH_ready (rs := [25]) (by kernel_rfl) (by simp) ?_
              refine AllReadyH.cons rfl (fun K hK => ?_) AllReadyH.nil
              go_simp
              refine hK.out _ _ (by (try dsimp only); obtain ⟨kf, km⟩ : (_ ∧ _) := ⟨x2, x8⟩; have := lt_cell kf.1; have := lt_cell km.1; refine ⟨⟨?_, ?_⟩, ?_, ?_, ?_, ?_, ?_, ?_, ?_, ?_⟩ <;> (obtain ⟨kf0, kf1⟩ := kf; obtain ⟨km0, km1, km2, km3, km4, km5, km6, km7⟩ := km; go_simp)) (fun hHeld => ?_)
              clear hK K
              try simp only [Act.put, List.setIfInBounds_toArray, List.set_cons_zero, List.set_cons_succ]
              refine Drawn.take (i := 26) (d := some 5) (v := ?v36) rfl rfl (by kernel_rfl) (by kernel_rfl) (by kernel_rfl) (fun _ _ _ h => h) (by rfl) ?hy36 (by assumption) ?rest36
              case hy36 => (intro w hSw; (try dsimp only at hSw); go_simp; try with_reducible rfl)
              case' rest36 => try simp only [Act.put, List.setIfInBounds_toArray, List.set_cons_zero, List.set_cons_succ]
              refine wpAnyH_done (by kernel_rfl) ?_ _

              have hpt : Hid (pre f t = true) := by
                show _ = _
                rw [hpre.out, decide_eq_true HS0.out, decide_eq_true HL0.out]; rfl
              have hxs := hbX.size
              refine name_world (fun W2 => Hid (Lk W2 w4.heap.size (.slice ca f.classes.length ccap) (.slice (some ⟨b, o, none⟩) f.methods.length mcap) (.slice pa t.params.length pcap) (.slice da t.code.length dcap) (.slice ha t.handlers.length hcap) t true) ∧ Below w4.heap.size w4 W2 ∧ W2.cell? ⟨wr.heap.size, 6, none⟩ = some (.slice da t.code.length dcap)) ?_ ?_
              · refine ⟨?_, (by repeat' (first | with_reducible exact Below.refl _ _ | with_reducible assumption | exact Nat.le_refl _ | with_reducible refine Go.Proofs.Ytncmhenfgbcihaa.Rd.below_drewN ?_ _ | with_reducible refine Below.alloc ?_ ?_ _ | with_reducible refine Below.setCell ?_ ?_ _ | with_reducible refine Below.drew ?_ | omega | (simp; omega) | (simp; done))), ?_⟩
                · show Lk _ _ _ _ _ _ _ _ _
                  refine ⟨⟨?_, ?_⟩, ⟨?_, ?_, ?_, ?_, ?_, ?_, ?_, ?_⟩, ?_, ?_⟩
                  all_goals go_simp
                · obtain ⟨kf, km⟩ : (_ ∧ _) := ⟨x2, x8⟩
                  have hz := lt_cell km.1
                  have km6 := km.2.2.2.2.2.2.1
                  clear kf km
                  go_simp
              rintro W2 ⟨hlk0, hbl0, m6'⟩
              have hbl1 : Below wr.heap.size wr W2 := (hbr.trans (hbX.mono hbr.size)).trans (hbl0.mono (by have := hbr.size; omega))
              have hbl2 : Below w.heap.size w W2 := hwr2.out.trans (hbl1.mono hwrs)
              have hblw : w.heap.size ≤ w4.heap.size := by have := hbr.size; omega
              have hl6 := lt_cell m6'
              have hlbs := hlk0.out.lt
              have hlbr : wr.heap.size < w4.heap.size := by have := hbr.size; omega
              clear f1 f2 m0 m1 m2 m3 m4 m5 m6 m7 htW hfW hmW hts0 k2 k8
              go_wp2_with fail
              obtain ⟨wo, rfl⟩ : ∃ wo : World, wo = wr := ⟨_, rfl⟩

              have hFit : Hid (Fit f t f.classes.length ccap dcap) := ⟨clc, ccc, dlc, dcc, hregs⟩
              go_loopw [55] (fun i wr => ∃ j : Nat, j ≤ t.code.length ∧ i = .int .i64 j ∧ Hid (Lk wr w4.heap.size (.slice ca f.classes.length ccap) (.slice (some ⟨b, o, none⟩) f.methods.length mcap) (.slice pa t.params.length pcap) (.slice da t.code.length dcap) (.slice ha t.handlers.length hcap) t (insTo f t j)) ∧ Keep W2.heap.size w4.heap.size W2 wr) (fun i _ => t.code.length - (intOf i).toNat)
              case atStart => exact ⟨0, by omega, rfl, by show Lk _ _ _ _ _ _ _ _ _; simpa [insTo] using hlk0.out, Keep.refl _ _ _⟩
              case round =>
                obtain ⟨j, hj, rfl, hlk, hkp⟩ := hrel
                have hks := hkp.size
                have hlz := hlk.out.lt
                have hkb : Below w.heap.size w wr := hbl2.trans (hkp.below (by omega) (by omega))
                by_cases hlt2 : j < t.code.length
                · obtain ⟨b2, o2, rfl, hb2', he2⟩ := del j hlt2
                  have hst := Lib.hid (insTo_succ (f := f) hlt2)
                  obtain ⟨x, hx⟩ := at_of hlt2
                  rw [hx.out] at he2 hst
                  obtain ⟨g1, g2, g3, g4, g5, oks, va, g6, gargs⟩ := he2
                  have hvi : VIns w w.heap.size (.agg #[.int .i64 x.op, .int .i64 x.a, .int .i64 x.b, .int .i64 x.c, .int .i64 x.n, va]) x := ⟨va, rfl, oks, gargs⟩
                  have hvi2 := Lib.hid hvi
                  clear hvi
                  obtain ⟨aa, acap, rfl, alc, acc, _⟩ := gargs
                  have h1 := hkp.cell (by omega) (by omega) (kept hbl2 hb2' g1)
                  have h2 := hkp.cell (by omega) (by omega) (kept hbl2 hb2' g2)
                  have h3 := hkp.cell (by omega) (by omega) (kept hbl2 hb2' g3)
                  have h4 := hkp.cell (by omega) (by omega) (kept hbl2 hb2' g4)
                  have h5 := hkp.cell (by omega) (by omega) (kept hbl2 hb2' g5)
                  have h6 := hkp.cell (by omega) (by omega) (kept hbl2 hb2' g6)
                  have hI2 : (0 : Int) ≤ (j : Int) ∧ (j : Int) < t.code.length := ⟨by omega, by omega⟩
                  obtain ⟨hI3, hI4⟩ := hI2
                  obtain ⟨q, hq7⟩ : ∃ q, Hid (insTo f t j = q) := ⟨_, rfl⟩
                  rw [hq7.out] at hlk hst
                  have z10 := hlk.out.2.2.1
                  clear del g1 g2 g3 g4 g5 g6
                  cases q
                  · go_wp2_with fail
                    go_roundw
                    case rel =>
                      refine ⟨j + 1, by omega, by go_num, ?_, hkp.trans (Keep.alloc (Keep.refl _ _ _) (by omega) _)⟩
                      rw [hst.out]
                      exact (hlk.out.next (Below.alloc (Below.refl _ _) (Nat.le_refl _) _) hlk.out.lt)
                    case measure => simp [intOf]; omega
                  · go_wp2_with fail
                    have hkc := hkb.alloc (by omega) (.cells #[.int .i64 x.op, .int .i64 x.a, .int .i64 x.b, .int .i64 x.c, .int .i64 x.n, .slice aa x.args.length acap] 43)
                    refine (Look.ins f t x _ w4.heap.size ca ccap _ _ _ dcap _ _ (hlk.out.next (Below.alloc (Below.refl _ _) (Nat.le_refl _) _) hlk.out.lt) hFit.out okr.out w.heap.size hblw (Sl.mono mCls hcs2.out hkc (Nat.le_refl _)) (Sl.mono mMe hms2.out hkc (Nat.le_refl _)) (hvi2.out.mono hkc (Nat.le_refl _))).mono ?_
                    rintro e w6 ⟨rfl, hA, hK6⟩
                    have hA2 := Lib.hid hA
                    clear hA hkc
                    go_wp2_with fail
                    go_roundw
                    case rel =>
                      refine ⟨j + 1, by omega, by go_num, ?_, hkp.trans (Keep.trans (Keep.alloc (Keep.refl _ _ _) hks _) (hK6.mono (by simp; omega)))⟩
                      rw [hst.out, Bool.true_and]
                      exact hA2.out
                    case measure => simp [intOf]; omega
                · have hge2 : ¬ (j : Int) < t.code.length := by omega
                  have hjj : Hid (j = t.code.length) := by show _ = _; omega
                  obtain ⟨q, hq7⟩ : ∃ q, Hid (insTo f t j = q) := ⟨_, rfl⟩
                  rw [hq7.out] at hlk
                  have hrm : Hid (Rform.rme f t = q) := by show _ = _; rw [rme_eq, hpt.out, ← hq7.out, hjj.out]; rfl
                  have z10 := hlk.out.2.2.1
                  clear del
                  cases q
                  · go_wp2_with fail
                    go_ret
                    exact ⟨ret_bool (by rw [hall0.out]; simp [hno.out hrm.out]), hkb⟩
                  · have hh := Lib.hid (hyes.out hrm.out)
                    have hfin : Below w1.heap.size w1 wr := hq2.out.trans ((hbl1.trans (hkp.below (by omega) (by omega))).mono hqs)
                    go_wp2_with fail
                    go_roundw
                    case rel => exact ⟨k + 1, by omega, by go_num, hfin, hh.out⟩
                    case measure => simp [intOf]; omega
          · have hlo0 : (t.locals == 0) = false := by simpa using hl0
            have HL0 := Lib.hid hl0
            clear hl0
            refine wp_region_held_drew (S := fun w' => (w'.cell? ⟨w.heap.size, 0, none⟩ = some (.slice ca f.classes.length ccap) ∧ w'.cell? ⟨w.heap.size, 1, none⟩ = some (.slice (some ⟨b, o, none⟩) f.methods.length mcap)) ∧ w'.cell? ⟨wr.heap.size, 0, none⟩ = some (.slice pa t.params.length pcap) ∧ w'.cell? ⟨wr.heap.size, 1, none⟩ = some (.int .i64 t.ret.kind) ∧ w'.cell? ⟨wr.heap.size, 2, none⟩ = some (.int .i64 t.ret.cls) ∧ w'.cell? ⟨wr.heap.size, 3, none⟩ = some (.int .i64 t.stack) ∧ w'.cell? ⟨wr.heap.size, 4, none⟩ = some (.int .i64 t.locals) ∧ w'.cell? ⟨wr.heap.size, 5, none⟩ = some (.int .i64 t.regs) ∧ w'.cell? ⟨wr.heap.size, 6, none⟩ = some (.slice da t.code.length dcap) ∧ w'.cell? ⟨wr.heap.size, 7, none⟩ = some (.slice ha t.handlers.length hcap)) (by kernel_rfl) (by (try dsimp only); first | exact ⟨⟨f1, f2⟩, m0, m1, m2, m3, m4, m5, m6, m7⟩ | go_keep) (fun hHeld => ?_)
            refine Drawn.take (i := 0) (d := some 26) (v := ?v37) rfl rfl (by kernel_rfl) (by kernel_rfl) (by kernel_rfl) (fun _ _ _ h => h) (by rfl) ?hy37 (by assumption) ?rest37
            case hy37 => (intro w hSw; (try dsimp only at hSw); go_simp; try with_reducible rfl)
            case' rest37 => try simp only [Act.put, List.setIfInBounds_toArray, List.set_cons_zero, List.set_cons_succ]
            refine Drawn.take (i := 1) (d := some 27) (v := ?v38) rfl rfl (by kernel_rfl) (by kernel_rfl) (by kernel_rfl) (fun _ _ _ h => h) (by rfl) ?hy38 (by assumption) ?rest38
            case hy38 => (intro w hSw; (try dsimp only at hSw); go_simp; try with_reducible rfl)
            case' rest38 => try simp only [Act.put, List.setIfInBounds_toArray, List.set_cons_zero, List.set_cons_succ]
            refine Drawn.take (i := 2) (d := some 28) (v := ?v39) rfl rfl (by kernel_rfl) (by kernel_rfl) (by kernel_rfl) (fun _ _ _ h => h) (by rfl) ?hy39 (by assumption) ?rest39
            case hy39 => (intro w hSw; (try dsimp only at hSw); go_simp; try with_reducible rfl)
            case' rest39 => try simp only [Act.put, List.setIfInBounds_toArray, List.set_cons_zero, List.set_cons_succ]
            refine Drawn.take (i := 3) (d := some 29) (v := ?v40) rfl rfl (by kernel_rfl) (by kernel_rfl) (by kernel_rfl) (fun _ _ _ h => h) (by rfl) ?hy40 (by assumption) ?rest40
            case hy40 => (intro w hSw; (try dsimp only at hSw); go_simp; try with_reducible rfl)
            case' rest40 => try simp only [Act.put, List.setIfInBounds_toArray, List.set_cons_zero, List.set_cons_succ]
            refine wpAnyH_ready (rs := [4]) (by kernel_rfl) (by simp) ?_
            refine AllReadyH.cons rfl (fun K hK => ?_) AllReadyH.nil
            go_simp
            go_at_call 53
            refine (headV f t 2400 _ _ _ _ hph.out (hfW.mono (by repeat' (first | with_reducible exact Below.refl _ _ | with_reducible assumption | exact Nat.le_refl _ | with_reducible refine Go.Proofs.Ytncmhenfgbcihaa.Rd.below_drewN ?_ _ | with_reducible refine Below.alloc ?_ ?_ _ | with_reducible refine Below.setCell ?_ ?_ _ | with_reducible refine Below.drew ?_ | omega | (simp; omega) | (simp; done))) (by simp)) (hmW.mono (by repeat' (first | with_reducible exact Below.refl _ _ | with_reducible assumption | exact Nat.le_refl _ | with_reducible refine Go.Proofs.Ytncmhenfgbcihaa.Rd.below_drewN ?_ _ | with_reducible refine Below.alloc ?_ ?_ _ | with_reducible refine Below.setCell ?_ ?_ _ | with_reducible refine Below.drew ?_ | omega | (simp; omega) | (simp; done))) (by simp)) (by omega)).mono ?_
            rintro e w2 ⟨rfl, hb2⟩
            have hbW : Below W.heap.size W w2 := Below.trans (by repeat' (first | with_reducible exact Below.refl _ _ | with_reducible assumption | exact Nat.le_refl _ | with_reducible refine Go.Proofs.Ytncmhenfgbcihaa.Rd.below_drewN ?_ _ | with_reducible refine Below.alloc ?_ ?_ _ | with_reducible refine Below.setCell ?_ ?_ _ | with_reducible refine Below.drew ?_ | omega | (simp; omega) | (simp; done))) (hb2.mono (by simp))
            have k2 := B2.next ⟨f1, f2⟩ hbW (by omega)
            have k8 := B8.next ⟨m0, m1, m2, m3, m4, m5, m6, m7⟩ hbW (by omega)
            go_wp2_with fail
            refine hK.out _ _ (by (try dsimp only); exact ⟨k2, k8⟩) (fun hHeld => ?_)
            clear hK K
            try simp only [Act.put, List.setIfInBounds_toArray, List.set_cons_zero, List.set_cons_succ]
            refine Drawn.take (i := 5) (d := some 31) (v := ?v41) rfl rfl (by kernel_rfl) (by kernel_rfl) (by kernel_rfl) (fun _ _ _ h => h) (by rfl) ?hy41 (by assumption) ?rest41
            case hy41 => (intro w hSw; (try dsimp only at hSw); go_simp; try with_reducible rfl)
            case' rest41 => try simp only [Act.put, List.setIfInBounds_toArray, List.set_cons_zero, List.set_cons_succ]

            refine Drawn.take (i := 6) (d := some 32) (v := ?v42) rfl rfl (by kernel_rfl) (by kernel_rfl) (by kernel_rfl) (fun _ _ _ h => h) (by rfl) ?hy42 (by assumption) ?rest42
            case hy42 => (intro w hSw; (try dsimp only at hSw); go_simp; try with_reducible rfl)
            case' rest42 => try simp only [Act.put, List.setIfInBounds_toArray, List.set_cons_zero, List.set_cons_succ]
            refine Drawn.take (i := 7) (d := some 33) (v := ?v43) rfl rfl (by kernel_rfl) (by kernel_rfl) (by kernel_rfl) (fun _ _ _ h => h) (by rfl) ?hy43 (by assumption) ?rest43
            case hy43 => (intro w hSw; (try dsimp only at hSw); go_simp; try with_reducible rfl)
            case' rest43 => try simp only [Act.put, List.setIfInBounds_toArray, List.set_cons_zero, List.set_cons_succ]
            refine Drawn.take (i := 8) (d := some 34) (v := ?v44) rfl rfl (by kernel_rfl) (by kernel_rfl) (by kernel_rfl) (fun _ _ _ h => h) (by rfl) ?hy44 (by assumption) ?rest44
            case hy44 => (intro w hSw; (try dsimp only at hSw); go_simp; try with_reducible rfl)
            case' rest44 => try simp only [Act.put, List.setIfInBounds_toArray, List.set_cons_zero, List.set_cons_succ]
            refine Drawn.take (i := 9) (d := some 35) (v := ?v45) rfl rfl (by kernel_rfl) (by kernel_rfl) (by kernel_rfl) (fun _ _ _ h => h) (by rfl) ?hy45 (by assumption) ?rest45
            case hy45 => (intro w hSw; (try dsimp only at hSw); go_simp; try with_reducible rfl)
            case' rest45 => try simp only [Act.put, List.setIfInBounds_toArray, List.set_cons_zero, List.set_cons_succ]
            refine Drawn.take (i := 10) (d := some 36) (v := ?v46) rfl rfl (by kernel_rfl) (by kernel_rfl) (by kernel_rfl) (fun _ _ _ h => h) (by rfl) ?hy46 (by assumption) ?rest46
            case hy46 => (intro w hSw; (try dsimp only at hSw); go_simp; try with_reducible rfl)
            case' rest46 => try simp only [Act.put, List.setIfInBounds_toArray, List.set_cons_zero, List.set_cons_succ]
            refine Drawn.take (i := 11) (d := some 37) (v := ?v47) rfl rfl (by kernel_rfl) (by kernel_rfl) (by kernel_rfl) (fun _ _ _ h => h) (by rfl) ?hy47 (by assumption) ?rest47
            case hy47 => (intro w hSw; (try dsimp only at hSw); go_simp; try with_reducible rfl)
            case' rest47 => try simp only [Act.put, List.setIfInBounds_toArray, List.set_cons_zero, List.set_cons_succ]
            refine Drawn.take (i := 12) (d := some 38) (v := ?v48) rfl rfl (by kernel_rfl) (by kernel_rfl) (by kernel_rfl) (fun _ _ _ h => h) (by rfl) ?hy48 (by assumption) ?rest48
            case hy48 => (intro w hSw; (try dsimp only at hSw); go_simp; try with_reducible rfl)
            case' rest48 => try simp only [Act.put, List.setIfInBounds_toArray, List.set_cons_zero, List.set_cons_succ]
            refine Drawn.take (i := 13) (d := some 39) (v := ?v49) rfl rfl (by kernel_rfl) (by kernel_rfl) (by kernel_rfl) (fun _ _ _ h => h) (by rfl) ?hy49 (by assumption) ?rest49
            case hy49 => (intro w hSw; (try dsimp only at hSw); go_simp; try with_reducible rfl)
            case' rest49 => try simp only [Act.put, List.setIfInBounds_toArray, List.set_cons_zero, List.set_cons_succ]
            refine Drawn.take (i := 14) (d := some 40) (v := ?v50) rfl rfl (by kernel_rfl) (by kernel_rfl) (by kernel_rfl) (fun _ _ _ h => h) (by rfl) ?hy50 (by assumption) ?rest50
            case hy50 => (intro w hSw; (try dsimp only at hSw); go_simp; try with_reducible rfl)
            case' rest50 => try simp only [Act.put, List.setIfInBounds_toArray, List.set_cons_zero, List.set_cons_succ]
            refine Drawn.take (i := 15) (d := some 41) (v := ?v51) rfl rfl (by kernel_rfl) (by kernel_rfl) (by kernel_rfl) (fun _ _ _ h => h) (by rfl) ?hy51 (by assumption) ?rest51
            case hy51 => (intro w hSw; (try dsimp only at hSw); go_simp; try with_reducible rfl)
            case' rest51 => try simp only [Act.put, List.setIfInBounds_toArray, List.set_cons_zero, List.set_cons_succ]
            refine Drawn.pass (i := 16) (d := some 42) rfl rfl (by kernel_rfl) (by kernel_rfl) (by kernel_rfl) (fun _ _ _ h => h) (by rfl) (by assumption) ?rest83
            case' rest83 => try simp only [Act.put, List.setIfInBounds_toArray, List.set_cons_zero, List.set_cons_succ]
            refine Drawn.pass (i := 17) (d := some 43) rfl rfl (by kernel_rfl) (by kernel_rfl) (by kernel_rfl) (fun _ _ _ h => h) (by rfl) (by assumption) ?rest84
            case' rest84 => try simp only [Act.put, List.setIfInBounds_toArray, List.set_cons_zero, List.set_cons_succ]
            refine Drawn.pass (i := 18) (d := some 44) rfl rfl (by kernel_rfl) (by kernel_rfl) (by kernel_rfl) (fun _ _ _ h => h) (by rfl) (by assumption) ?rest85
            case' rest85 => try simp only [Act.put, List.setIfInBounds_toArray, List.set_cons_zero, List.set_cons_succ]
            refine Drawn.pass (i := 19) (d := some 45) rfl rfl (by kernel_rfl) (by kernel_rfl) (by kernel_rfl) (fun _ _ _ h => h) (by rfl) (by assumption) ?rest86
            case' rest86 => try simp only [Act.put, List.setIfInBounds_toArray, List.set_cons_zero, List.set_cons_succ]
            refine Drawn.pass (i := 20) (d := some 46) rfl rfl (by kernel_rfl) (by kernel_rfl) (by kernel_rfl) (fun _ _ _ h => h) (by rfl) (by assumption) ?rest87
            case' rest87 => try simp only [Act.put, List.setIfInBounds_toArray, List.set_cons_zero, List.set_cons_succ]
            refine Drawn.pass (i := 21) (d := some 47) rfl rfl (by kernel_rfl) (by kernel_rfl) (by kernel_rfl) (fun _ _ _ h => h) (by rfl) (by assumption) ?rest88
            case' rest88 => try simp only [Act.put, List.setIfInBounds_toArray, List.set_cons_zero, List.set_cons_succ]
            refine Drawn.pass (i := 22) (d := some 48) rfl rfl (by kernel_rfl) (by kernel_rfl) (by kernel_rfl) (fun _ _ _ h => h) (by rfl) (by assumption) ?rest89
            case' rest89 => try simp only [Act.put, List.setIfInBounds_toArray, List.set_cons_zero, List.set_cons_succ]
            refine Drawn.take (i := 23) (d := some 49) (v := ?v52) rfl rfl (by kernel_rfl) (by kernel_rfl) (by kernel_rfl) (fun _ _ _ h => h) (by rfl) ?hy52 (by assumption) ?rest52
            case hy52 => (intro w hSw; (try dsimp only at hSw); go_simp; try with_reducible rfl)
            case' rest52 => try simp only [Act.put, List.setIfInBounds_toArray, List.set_cons_zero, List.set_cons_succ]
            refine Drawn.take (i := 24) (d := some 50) (v := ?v53) rfl rfl (by kernel_rfl) (by kernel_rfl) (by kernel_rfl) (fun _ _ _ h => h) (by rfl) ?hy53 (by assumption) ?rest53
            case hy53 => (intro w hSw; (try dsimp only at hSw); go_simp; try with_reducible rfl)
            case' rest53 => try simp only [Act.put, List.setIfInBounds_toArray, List.set_cons_zero, List.set_cons_succ]
            refine wpAnyH_ready (rs := [25]) (by kernel_rfl) (by simp) ?_
            refine AllReadyH.cons rfl (fun K hK => ?_) AllReadyH.nil
            go_simp
            refine hK.out _ _ (by (try dsimp only); obtain ⟨kf, km⟩ : (_ ∧ _) := ⟨k2, k8⟩; have := lt_cell kf.1; have := lt_cell km.1; refine ⟨⟨?_, ?_⟩, ?_, ?_, ?_, ?_, ?_, ?_, ?_, ?_⟩ <;> (obtain ⟨kf0, kf1⟩ := kf; obtain ⟨km0, km1, km2, km3, km4, km5, km6, km7⟩ := km; go_simp)) (fun hHeld => ?_)
            clear hK K
            try simp only [Act.put, List.setIfInBounds_toArray, List.set_cons_zero, List.set_cons_succ]
            refine Drawn.take (i := 26) (d := some 5) (v := ?v54) rfl rfl (by kernel_rfl) (by kernel_rfl) (by kernel_rfl) (fun _ _ _ h => h) (by rfl) ?hy54 (by assumption) ?rest54
            case hy54 => (intro w hSw; (try dsimp only at hSw); go_simp; try with_reducible rfl)
            case' rest54 => try simp only [Act.put, List.setIfInBounds_toArray, List.set_cons_zero, List.set_cons_succ]
            refine wpAnyH_done (by kernel_rfl) ?_ _
            have hpt : Hid (pre f t = false) := by
              show _ = _
              rw [hpre.out, decide_eq_false HL0.out]; simp
            have hxs := hbW.size
            refine name_world (fun W2 => Hid (Lk W2 w2.heap.size (.slice ca f.classes.length ccap) (.slice (some ⟨b, o, none⟩) f.methods.length mcap) (.slice pa t.params.length pcap) (.slice da t.code.length dcap) (.slice ha t.handlers.length hcap) t false) ∧ Below w2.heap.size w2 W2 ∧ W2.cell? ⟨wr.heap.size, 6, none⟩ = some (.slice da t.code.length dcap)) ?_ ?_
            · refine ⟨?_, (by repeat' (first | with_reducible exact Below.refl _ _ | with_reducible assumption | exact Nat.le_refl _ | with_reducible refine Go.Proofs.Ytncmhenfgbcihaa.Rd.below_drewN ?_ _ | with_reducible refine Below.alloc ?_ ?_ _ | with_reducible refine Below.setCell ?_ ?_ _ | with_reducible refine Below.drew ?_ | omega | (simp; omega) | (simp; done))), ?_⟩
              · show Lk _ _ _ _ _ _ _ _ _
                refine ⟨⟨?_, ?_⟩, ⟨?_, ?_, ?_, ?_, ?_, ?_, ?_, ?_⟩, ?_, ?_⟩
                all_goals go_simp
              · obtain ⟨kf, km⟩ : (_ ∧ _) := ⟨k2, k8⟩
                have hz := lt_cell km.1
                have km6 := km.2.2.2.2.2.2.1
                clear kf km
                go_simp
            rintro W2 ⟨hlk0, hbl0, m6'⟩
            have hbl1 : Below wr.heap.size wr W2 := (hbr.trans (hbW.mono hbr.size)).trans (hbl0.mono (by have := hbr.size; omega))
            have hbl2 : Below w.heap.size w W2 := hwr2.out.trans (hbl1.mono hwrs)
            have hblw : w.heap.size ≤ w2.heap.size := by have := hbr.size; omega
            have hl6 := lt_cell m6'
            have hlbs := hlk0.out.lt
            have hlbr : wr.heap.size < w2.heap.size := by have := hbr.size; omega
            clear f1 f2 m0 m1 m2 m3 m4 m5 m6 m7 htW hfW hmW hts0 k2 k8
            go_wp2_with fail
            obtain ⟨wo, rfl⟩ : ∃ wo : World, wo = wr := ⟨_, rfl⟩

            go_loopw [55] (fun i wr => ∃ j : Nat, j ≤ t.code.length ∧ i = .int .i64 j ∧ Hid (Lk wr w2.heap.size (.slice ca f.classes.length ccap) (.slice (some ⟨b, o, none⟩) f.methods.length mcap) (.slice pa t.params.length pcap) (.slice da t.code.length dcap) (.slice ha t.handlers.length hcap) t false) ∧ Keep W2.heap.size w2.heap.size W2 wr) (fun i _ => t.code.length - (intOf i).toNat)
            case atStart => exact ⟨0, by omega, rfl, hlk0, Keep.refl _ _ _⟩
            case round =>
              obtain ⟨j, hj, rfl, hlk, hkp⟩ := hrel
              have hks := hkp.size
              have z10 := hlk.out.2.2.1
              have hlz := hlk.out.lt
              by_cases hlt2 : j < t.code.length
              · obtain ⟨b2, o2, rfl, hb2', he2⟩ := del j hlt2
                obtain ⟨x, hx⟩ := at_of hlt2
                rw [hx.out] at he2
                obtain ⟨g1, g2, g3, g4, g5, oks, va, g6, gargs⟩ := he2
                obtain ⟨aa, acap, rfl, alc, acc, _⟩ := gargs
                have h1 := hkp.cell (by omega) (by omega) (kept hbl2 hb2' g1)
                have h2 := hkp.cell (by omega) (by omega) (kept hbl2 hb2' g2)
                have h3 := hkp.cell (by omega) (by omega) (kept hbl2 hb2' g3)
                have h4 := hkp.cell (by omega) (by omega) (kept hbl2 hb2' g4)
                have h5 := hkp.cell (by omega) (by omega) (kept hbl2 hb2' g5)
                have h6 := hkp.cell (by omega) (by omega) (kept hbl2 hb2' g6)
                have hI2 : (0 : Int) ≤ (j : Int) ∧ (j : Int) < t.code.length := ⟨by omega, by omega⟩
                obtain ⟨hI3, hI4⟩ := hI2
                clear del g1 g2 g3 g4 g5 g6
                go_wp2_with fail
                go_roundw
                case rel => exact ⟨j + 1, by omega, by go_num, Lib.hid (hlk.out.next (Below.alloc (Below.refl _ _) (Nat.le_refl _) _) hlk.out.lt), hkp.trans (Keep.alloc (Keep.refl _ _ _) (by omega) _)⟩
                case measure => simp [intOf]; omega
              · have hge2 : ¬ (j : Int) < t.code.length := by omega
                have hkb : Below w.heap.size w wr := hbl2.trans (hkp.below (by omega) (by omega))
                clear del
                go_wp2_with fail
                go_ret
                exact ⟨ret_bool (by rw [hall0.out]; simp [hno.out (by rw [rme_eq, hpt.out]; rfl)]), hkb⟩
        · have hst0 : (t.stack == 0) = false := by simpa using hs0
          have HS0 := Lib.hid hs0
          clear hs0
          refine wp_region_held_drew (S := fun w' => (w'.cell? ⟨w.heap.size, 0, none⟩ = some (.slice ca f.classes.length ccap) ∧ w'.cell? ⟨w.heap.size, 1, none⟩ = some (.slice (some ⟨b, o, none⟩) f.methods.length mcap)) ∧ w'.cell? ⟨wr.heap.size, 0, none⟩ = some (.slice pa t.params.length pcap) ∧ w'.cell? ⟨wr.heap.size, 1, none⟩ = some (.int .i64 t.ret.kind) ∧ w'.cell? ⟨wr.heap.size, 2, none⟩ = some (.int .i64 t.ret.cls) ∧ w'.cell? ⟨wr.heap.size, 3, none⟩ = some (.int .i64 t.stack) ∧ w'.cell? ⟨wr.heap.size, 4, none⟩ = some (.int .i64 t.locals) ∧ w'.cell? ⟨wr.heap.size, 5, none⟩ = some (.int .i64 t.regs) ∧ w'.cell? ⟨wr.heap.size, 6, none⟩ = some (.slice da t.code.length dcap) ∧ w'.cell? ⟨wr.heap.size, 7, none⟩ = some (.slice ha t.handlers.length hcap)) (by kernel_rfl) (by (try dsimp only); first | exact ⟨⟨f1, f2⟩, m0, m1, m2, m3, m4, m5, m6, m7⟩ | go_keep) (fun hHeld => ?_)
          refine Drawn.take (i := 0) (d := some 26) (v := ?v55) rfl rfl (by kernel_rfl) (by kernel_rfl) (by kernel_rfl) (fun _ _ _ h => h) (by rfl) ?hy55 (by assumption) ?rest55
          case hy55 => (intro w hSw; (try dsimp only at hSw); go_simp; try with_reducible rfl)
          case' rest55 => try simp only [Act.put, List.setIfInBounds_toArray, List.set_cons_zero, List.set_cons_succ]
          refine Drawn.take (i := 1) (d := some 27) (v := ?v56) rfl rfl (by kernel_rfl) (by kernel_rfl) (by kernel_rfl) (fun _ _ _ h => h) (by rfl) ?hy56 (by assumption) ?rest56
          case hy56 => (intro w hSw; (try dsimp only at hSw); go_simp; try with_reducible rfl)
          case' rest56 => try simp only [Act.put, List.setIfInBounds_toArray, List.set_cons_zero, List.set_cons_succ]
          refine Drawn.take (i := 2) (d := some 28) (v := ?v57) rfl rfl (by kernel_rfl) (by kernel_rfl) (by kernel_rfl) (fun _ _ _ h => h) (by rfl) ?hy57 (by assumption) ?rest57
          case hy57 => (intro w hSw; (try dsimp only at hSw); go_simp; try with_reducible rfl)
          case' rest57 => try simp only [Act.put, List.setIfInBounds_toArray, List.set_cons_zero, List.set_cons_succ]
          refine Drawn.take (i := 3) (d := some 29) (v := ?v58) rfl rfl (by kernel_rfl) (by kernel_rfl) (by kernel_rfl) (fun _ _ _ h => h) (by rfl) ?hy58 (by assumption) ?rest58
          case hy58 => (intro w hSw; (try dsimp only at hSw); go_simp; try with_reducible rfl)
          case' rest58 => try simp only [Act.put, List.setIfInBounds_toArray, List.set_cons_zero, List.set_cons_succ]
          refine wpAnyH_ready (rs := [4]) (by kernel_rfl) (by simp) ?_
          refine AllReadyH.cons rfl (fun K hK => ?_) AllReadyH.nil
          go_simp
          go_at_call 53
          refine (headV f t 2400 _ _ _ _ hph.out (hfW.mono (by repeat' (first | with_reducible exact Below.refl _ _ | with_reducible assumption | exact Nat.le_refl _ | with_reducible refine Go.Proofs.Ytncmhenfgbcihaa.Rd.below_drewN ?_ _ | with_reducible refine Below.alloc ?_ ?_ _ | with_reducible refine Below.setCell ?_ ?_ _ | with_reducible refine Below.drew ?_ | omega | (simp; omega) | (simp; done))) (by simp)) (hmW.mono (by repeat' (first | with_reducible exact Below.refl _ _ | with_reducible assumption | exact Nat.le_refl _ | with_reducible refine Go.Proofs.Ytncmhenfgbcihaa.Rd.below_drewN ?_ _ | with_reducible refine Below.alloc ?_ ?_ _ | with_reducible refine Below.setCell ?_ ?_ _ | with_reducible refine Below.drew ?_ | omega | (simp; omega) | (simp; done))) (by simp)) (by omega)).mono ?_
          rintro e w2 ⟨rfl, hb2⟩
          have hbW : Below W.heap.size W w2 := Below.trans (by repeat' (first | with_reducible exact Below.refl _ _ | with_reducible assumption | exact Nat.le_refl _ | with_reducible refine Go.Proofs.Ytncmhenfgbcihaa.Rd.below_drewN ?_ _ | with_reducible refine Below.alloc ?_ ?_ _ | with_reducible refine Below.setCell ?_ ?_ _ | with_reducible refine Below.drew ?_ | omega | (simp; omega) | (simp; done))) (hb2.mono (by simp))
          have k2 := B2.next ⟨f1, f2⟩ hbW (by omega)
          have k8 := B8.next ⟨m0, m1, m2, m3, m4, m5, m6, m7⟩ hbW (by omega)
          go_wp2_with fail
          refine hK.out _ _ (by (try dsimp only); exact ⟨k2, k8⟩) (fun hHeld => ?_)
          clear hK K
          try simp only [Act.put, List.setIfInBounds_toArray, List.set_cons_zero, List.set_cons_succ]
          refine Drawn.take (i := 5) (d := some 31) (v := ?v59) rfl rfl (by kernel_rfl) (by kernel_rfl) (by kernel_rfl) (fun _ _ _ h => h) (by rfl) ?hy59 (by assumption) ?rest59
          case hy59 => (intro w hSw; (try dsimp only at hSw); go_simp; try with_reducible rfl)
          case' rest59 => try simp only [Act.put, List.setIfInBounds_toArray, List.set_cons_zero, List.set_cons_succ]

          refine Drawn.take (i := 6) (d := some 32) (v := ?v60) rfl rfl (by kernel_rfl) (by kernel_rfl) (by kernel_rfl) (fun _ _ _ h => h) (by rfl) ?hy60 (by assumption) ?rest60
          case hy60 => (intro w hSw; (try dsimp only at hSw); go_simp; try with_reducible rfl)
          case' rest60 => try simp only [Act.put, List.setIfInBounds_toArray, List.set_cons_zero, List.set_cons_succ]
          refine Drawn.take (i := 7) (d := some 33) (v := ?v61) rfl rfl (by kernel_rfl) (by kernel_rfl) (by kernel_rfl) (fun _ _ _ h => h) (by rfl) ?hy61 (by assumption) ?rest61
          case hy61 => (intro w hSw; (try dsimp only at hSw); go_simp; try with_reducible rfl)
          case' rest61 => try simp only [Act.put, List.setIfInBounds_toArray, List.set_cons_zero, List.set_cons_succ]
          refine Drawn.take (i := 8) (d := some 34) (v := ?v62) rfl rfl (by kernel_rfl) (by kernel_rfl) (by kernel_rfl) (fun _ _ _ h => h) (by rfl) ?hy62 (by assumption) ?rest62
          case hy62 => (intro w hSw; (try dsimp only at hSw); go_simp; try with_reducible rfl)
          case' rest62 => try simp only [Act.put, List.setIfInBounds_toArray, List.set_cons_zero, List.set_cons_succ]
          refine Drawn.take (i := 9) (d := some 35) (v := ?v63) rfl rfl (by kernel_rfl) (by kernel_rfl) (by kernel_rfl) (fun _ _ _ h => h) (by rfl) ?hy63 (by assumption) ?rest63
          case hy63 => (intro w hSw; (try dsimp only at hSw); go_simp; try with_reducible rfl)
          case' rest63 => try simp only [Act.put, List.setIfInBounds_toArray, List.set_cons_zero, List.set_cons_succ]
          refine Drawn.take (i := 10) (d := some 36) (v := ?v64) rfl rfl (by kernel_rfl) (by kernel_rfl) (by kernel_rfl) (fun _ _ _ h => h) (by rfl) ?hy64 (by assumption) ?rest64
          case hy64 => (intro w hSw; (try dsimp only at hSw); go_simp; try with_reducible rfl)
          case' rest64 => try simp only [Act.put, List.setIfInBounds_toArray, List.set_cons_zero, List.set_cons_succ]
          refine Drawn.pass (i := 11) (d := some 37) rfl rfl (by kernel_rfl) (by kernel_rfl) (by kernel_rfl) (fun _ _ _ h => h) (by rfl) (by assumption) ?rest90
          case' rest90 => try simp only [Act.put, List.setIfInBounds_toArray, List.set_cons_zero, List.set_cons_succ]
          refine Drawn.pass (i := 12) (d := some 38) rfl rfl (by kernel_rfl) (by kernel_rfl) (by kernel_rfl) (fun _ _ _ h => h) (by rfl) (by assumption) ?rest91
          case' rest91 => try simp only [Act.put, List.setIfInBounds_toArray, List.set_cons_zero, List.set_cons_succ]
          refine Drawn.pass (i := 13) (d := some 39) rfl rfl (by kernel_rfl) (by kernel_rfl) (by kernel_rfl) (fun _ _ _ h => h) (by rfl) (by assumption) ?rest92
          case' rest92 => try simp only [Act.put, List.setIfInBounds_toArray, List.set_cons_zero, List.set_cons_succ]
          refine Drawn.take (i := 14) (d := some 40) (v := ?v65) rfl rfl (by kernel_rfl) (by kernel_rfl) (by kernel_rfl) (fun _ _ _ h => h) (by rfl) ?hy65 (by assumption) ?rest65
          case hy65 => (intro w hSw; (try dsimp only at hSw); go_simp; try with_reducible rfl)
          case' rest65 => try simp only [Act.put, List.setIfInBounds_toArray, List.set_cons_zero, List.set_cons_succ]
          refine Drawn.take (i := 15) (d := some 41) (v := ?v66) rfl rfl (by kernel_rfl) (by kernel_rfl) (by kernel_rfl) (fun _ _ _ h => h) (by rfl) ?hy66 (by assumption) ?rest66
          case hy66 => (intro w hSw; (try dsimp only at hSw); go_simp; try with_reducible rfl)
          case' rest66 => try simp only [Act.put, List.setIfInBounds_toArray, List.set_cons_zero, List.set_cons_succ]
          refine Drawn.pass (i := 16) (d := some 42) rfl rfl (by kernel_rfl) (by kernel_rfl) (by kernel_rfl) (fun _ _ _ h => h) (by rfl) (by assumption) ?rest93
          case' rest93 => try simp only [Act.put, List.setIfInBounds_toArray, List.set_cons_zero, List.set_cons_succ]
          refine Drawn.pass (i := 17) (d := some 43) rfl rfl (by kernel_rfl) (by kernel_rfl) (by kernel_rfl) (fun _ _ _ h => h) (by rfl) (by assumption) ?rest94
          case' rest94 => try simp only [Act.put, List.setIfInBounds_toArray, List.set_cons_zero, List.set_cons_succ]
          refine Drawn.pass (i := 18) (d := some 44) rfl rfl (by kernel_rfl) (by kernel_rfl) (by kernel_rfl) (fun _ _ _ h => h) (by rfl) (by assumption) ?rest95
          case' rest95 => try simp only [Act.put, List.setIfInBounds_toArray, List.set_cons_zero, List.set_cons_succ]
          refine Drawn.pass (i := 19) (d := some 45) rfl rfl (by kernel_rfl) (by kernel_rfl) (by kernel_rfl) (fun _ _ _ h => h) (by rfl) (by assumption) ?rest96
          case' rest96 => try simp only [Act.put, List.setIfInBounds_toArray, List.set_cons_zero, List.set_cons_succ]
          refine Drawn.pass (i := 20) (d := some 46) rfl rfl (by kernel_rfl) (by kernel_rfl) (by kernel_rfl) (fun _ _ _ h => h) (by rfl) (by assumption) ?rest97
          case' rest97 => try simp only [Act.put, List.setIfInBounds_toArray, List.set_cons_zero, List.set_cons_succ]
          refine Drawn.pass (i := 21) (d := some 47) rfl rfl (by kernel_rfl) (by kernel_rfl) (by kernel_rfl) (fun _ _ _ h => h) (by rfl) (by assumption) ?rest98
          case' rest98 => try simp only [Act.put, List.setIfInBounds_toArray, List.set_cons_zero, List.set_cons_succ]
          refine Drawn.pass (i := 22) (d := some 48) rfl rfl (by kernel_rfl) (by kernel_rfl) (by kernel_rfl) (fun _ _ _ h => h) (by rfl) (by assumption) ?rest99
          case' rest99 => try simp only [Act.put, List.setIfInBounds_toArray, List.set_cons_zero, List.set_cons_succ]
          refine Drawn.take (i := 23) (d := some 49) (v := ?v67) rfl rfl (by kernel_rfl) (by kernel_rfl) (by kernel_rfl) (fun _ _ _ h => h) (by rfl) ?hy67 (by assumption) ?rest67
          case hy67 => (intro w hSw; (try dsimp only at hSw); go_simp; try with_reducible rfl)
          case' rest67 => try simp only [Act.put, List.setIfInBounds_toArray, List.set_cons_zero, List.set_cons_succ]
          refine Drawn.take (i := 24) (d := some 50) (v := ?v68) rfl rfl (by kernel_rfl) (by kernel_rfl) (by kernel_rfl) (fun _ _ _ h => h) (by rfl) ?hy68 (by assumption) ?rest68
          case hy68 => (intro w hSw; (try dsimp only at hSw); go_simp; try with_reducible rfl)
          case' rest68 => try simp only [Act.put, List.setIfInBounds_toArray, List.set_cons_zero, List.set_cons_succ]
          refine wpAnyH_ready (rs := [25]) (by kernel_rfl) (by simp) ?_
          refine AllReadyH.cons rfl (fun K hK => ?_) AllReadyH.nil
          go_simp
          refine hK.out _ _ (by (try dsimp only); obtain ⟨kf, km⟩ : (_ ∧ _) := ⟨k2, k8⟩; have := lt_cell kf.1; have := lt_cell km.1; refine ⟨⟨?_, ?_⟩, ?_, ?_, ?_, ?_, ?_, ?_, ?_, ?_⟩ <;> (obtain ⟨kf0, kf1⟩ := kf; obtain ⟨km0, km1, km2, km3, km4, km5, km6, km7⟩ := km; go_simp)) (fun hHeld => ?_)
          clear hK K
          try simp only [Act.put, List.setIfInBounds_toArray, List.set_cons_zero, List.set_cons_succ]
          refine Drawn.take (i := 26) (d := some 5) (v := ?v69) rfl rfl (by kernel_rfl) (by kernel_rfl) (by kernel_rfl) (fun _ _ _ h => h) (by rfl) ?hy69 (by assumption) ?rest69
          case hy69 => (intro w hSw; (try dsimp only at hSw); go_simp; try with_reducible rfl)
          case' rest69 => try simp only [Act.put, List.setIfInBounds_toArray, List.set_cons_zero, List.set_cons_succ]
          refine wpAnyH_done (by kernel_rfl) ?_ _
          have hpt : Hid (pre f t = false) := by
            show _ = _
            rw [hpre.out, decide_eq_false HS0.out]; simp
          have hxs := hbW.size
          refine name_world (fun W2 => Hid (Lk W2 w2.heap.size (.slice ca f.classes.length ccap) (.slice (some ⟨b, o, none⟩) f.methods.length mcap) (.slice pa t.params.length pcap) (.slice da t.code.length dcap) (.slice ha t.handlers.length hcap) t false) ∧ Below w2.heap.size w2 W2 ∧ W2.cell? ⟨wr.heap.size, 6, none⟩ = some (.slice da t.code.length dcap)) ?_ ?_
          · refine ⟨?_, (by repeat' (first | with_reducible exact Below.refl _ _ | with_reducible assumption | exact Nat.le_refl _ | with_reducible refine Go.Proofs.Ytncmhenfgbcihaa.Rd.below_drewN ?_ _ | with_reducible refine Below.alloc ?_ ?_ _ | with_reducible refine Below.setCell ?_ ?_ _ | with_reducible refine Below.drew ?_ | omega | (simp; omega) | (simp; done))), ?_⟩
            · show Lk _ _ _ _ _ _ _ _ _
              refine ⟨⟨?_, ?_⟩, ⟨?_, ?_, ?_, ?_, ?_, ?_, ?_, ?_⟩, ?_, ?_⟩
              all_goals go_simp
            · obtain ⟨kf, km⟩ : (_ ∧ _) := ⟨k2, k8⟩
              have hz := lt_cell km.1
              have km6 := km.2.2.2.2.2.2.1
              clear kf km
              go_simp
          rintro W2 ⟨hlk0, hbl0, m6'⟩
          have hbl1 : Below wr.heap.size wr W2 := (hbr.trans (hbW.mono hbr.size)).trans (hbl0.mono (by have := hbr.size; omega))
          have hbl2 : Below w.heap.size w W2 := hwr2.out.trans (hbl1.mono hwrs)
          have hblw : w.heap.size ≤ w2.heap.size := by have := hbr.size; omega
          have hl6 := lt_cell m6'
          have hlbs := hlk0.out.lt
          have hlbr : wr.heap.size < w2.heap.size := by have := hbr.size; omega
          clear f1 f2 m0 m1 m2 m3 m4 m5 m6 m7 htW hfW hmW hts0 k2 k8
          go_wp2_with fail
          obtain ⟨wo, rfl⟩ : ∃ wo : World, wo = wr := ⟨_, rfl⟩

          go_loopw [55] (fun i wr => ∃ j : Nat, j ≤ t.code.length ∧ i = .int .i64 j ∧ Hid (Lk wr w2.heap.size (.slice ca f.classes.length ccap) (.slice (some ⟨b, o, none⟩) f.methods.length mcap) (.slice pa t.params.length pcap) (.slice da t.code.length dcap) (.slice ha t.handlers.length hcap) t false) ∧ Keep W2.heap.size w2.heap.size W2 wr) (fun i _ => t.code.length - (intOf i).toNat)
          case atStart => exact ⟨0, by omega, rfl, hlk0, Keep.refl _ _ _⟩
          case round =>
            obtain ⟨j, hj, rfl, hlk, hkp⟩ := hrel
            have hks := hkp.size
            have z10 := hlk.out.2.2.1
            have hlz := hlk.out.lt
            by_cases hlt2 : j < t.code.length
            · obtain ⟨b2, o2, rfl, hb2', he2⟩ := del j hlt2
              obtain ⟨x, hx⟩ := at_of hlt2
              rw [hx.out] at he2
              obtain ⟨g1, g2, g3, g4, g5, oks, va, g6, gargs⟩ := he2
              obtain ⟨aa, acap, rfl, alc, acc, _⟩ := gargs
              have h1 := hkp.cell (by omega) (by omega) (kept hbl2 hb2' g1)
              have h2 := hkp.cell (by omega) (by omega) (kept hbl2 hb2' g2)
              have h3 := hkp.cell (by omega) (by omega) (kept hbl2 hb2' g3)
              have h4 := hkp.cell (by omega) (by omega) (kept hbl2 hb2' g4)
              have h5 := hkp.cell (by omega) (by omega) (kept hbl2 hb2' g5)
              have h6 := hkp.cell (by omega) (by omega) (kept hbl2 hb2' g6)
              have hI2 : (0 : Int) ≤ (j : Int) ∧ (j : Int) < t.code.length := ⟨by omega, by omega⟩
              obtain ⟨hI3, hI4⟩ := hI2
              clear del g1 g2 g3 g4 g5 g6
              go_wp2_with fail
              go_roundw
              case rel => exact ⟨j + 1, by omega, by go_num, Lib.hid (hlk.out.next (Below.alloc (Below.refl _ _) (Nat.le_refl _) _) hlk.out.lt), hkp.trans (Keep.alloc (Keep.refl _ _ _) (by omega) _)⟩
              case measure => simp [intOf]; omega
            · have hge2 : ¬ (j : Int) < t.code.length := by omega
              have hkb : Below w.heap.size w wr := hbl2.trans (hkp.below (by omega) (by omega))
              clear del
              go_wp2_with fail
              go_ret
              exact ⟨ret_bool (by rw [hall0.out]; simp [hno.out (by rw [rme_eq, hpt.out]; rfl)]), hkb⟩
    · have hst := Lib.hid (Form.all_of (p := Rform.rme f) (fun j hj => hall.out j hj (by omega)))
      clear hall mel
      go_wp2
      go_ret
      exact ⟨ret_bool (by rw [hall0.out, hst.out]; rfl), hwr⟩
end Look
end Go.Proofs.Ytncmhenfgbcihaa
