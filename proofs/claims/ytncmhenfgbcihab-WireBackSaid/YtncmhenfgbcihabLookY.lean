/- The walk through rform.May. -/
import Derived.Test.YtncmhenfgbcihabLookP
import Derived.Test.YtncmhenfgbcihabFormY
namespace Go.Proofs.Ytncmhenfgbcihab
open Go.RowKit
set_option linter.unusedSimpArgs false
set_option linter.unusedVariables false
namespace Look
open Num Rd D HierW FormW

/-- the first k instructions -/
def insTo (f : Fi) (m : Me) (k : Nat) : Bool := (m.code.take k).all (Rform.ins f m)
theorem insTo_succ {f : Fi} {m : Me} {k : Nat} (h : k < m.code.length) : insTo f m (k + 1) = (insTo f m k && Rform.ins f m m.code[k]) := by
  unfold insTo; rw [List.take_succ_eq_append_getElem h, List.all_append]; simp
theorem insTo_all (f : Fi) (m : Me) : insTo f m m.code.length = m.code.all (Rform.ins f m) := by unfold insTo; rw [List.take_of_length_le (Nat.le_refl _)]
/-- all but the instructions -/
def pre (f : Fi) (m : Me) : Bool := Form.head f.classes.length m 2400 && decide (m.stack = 0) && decide (m.locals = 0) && Form.rng m.regs (max 1 (Form.slots m.params : Nat)) 91
theorem rme_eq (f : Fi) (m : Me) : Rform.rme f m = (pre f m && insTo f m m.code.length) := by rw [insTo_all]; rfl

set_option maxRecDepth 100000 in
set_option maxHeartbeats 16000000 in
theorem rmay (f : Fi) (vf : Value) (w : World) (hf : VFi w w.heap.size vf f) :
    Calls Try.prog 57 #[vf] w fun e w' => e = .returned (.bool (Rform.rmay f)) ∧ Below w.heap.size w w' := by
  have hf0 := hf
  obtain ⟨vc, vme, rfl, hcs, hms⟩ := hf
  have hcs2 := Lib.hid hcs
  obtain ⟨ca, ccap, rfl, clc, ccc, _⟩ := hcs
  have hms2 := Lib.hid hms
  obtain ⟨ma, mcap, rfl, mlc, mcc, mel⟩ := hms
  obtain ⟨ph, hph⟩ : ∃ p, Hid (Hier.may f.classes = p) := ⟨_, rfl⟩
  obtain ⟨pn, hpn⟩ : ∃ p, Hid (Form.rng f.methods.length 1 9 = p) := ⟨_, rfl⟩
  have hall0 : Hid (Rform.rmay f = (ph && pn && f.methods.all (Rform.rme f))) := by
    show _ = _
    rw [← hph.out, ← hpn.out]; rfl
  cases ph <;> cases pn
  all_goals go_enter Try.func57, Try.ntmps57
  all_goals go_wp2_with (first
    | (go_at_call 88; refine (mayV _ _ _ _ hph.out (Cs.next hcs2.out (by repeat' (first | with_reducible exact Below.refl _ _ | with_reducible assumption | exact Nat.le_refl _ | with_reducible refine Go.Proofs.Ytncmhenfgbcihab.Rd.below_drewN ?_ _ | with_reducible refine Below.alloc ?_ ?_ _ | with_reducible refine Below.setCell ?_ ?_ _ | with_reducible refine Below.drew ?_ | omega | (simp; omega) | (simp; done))))).mono ?_; rintro e w1 ⟨rfl, hb1⟩; have hw1 : Below w.heap.size w w1 := Below.trans (by repeat' (first | with_reducible exact Below.refl _ _ | with_reducible assumption | exact Nat.le_refl _ | with_reducible refine Go.Proofs.Ytncmhenfgbcihab.Rd.below_drewN ?_ _ | with_reducible refine Below.alloc ?_ ?_ _ | with_reducible refine Below.setCell ?_ ?_ _ | with_reducible refine Below.drew ?_ | omega | (simp; omega) | (simp; done))) (hb1.mono (by simp)); have y0 : w1.cell? ⟨w.heap.size, 0, none⟩ = some (.slice ca f.classes.length ccap) := kept hb1 (by simp) (by go_simp); have y1 : w1.cell? ⟨w.heap.size, 1, none⟩ = some (.slice ma f.methods.length mcap) := kept hb1 (by simp) (by go_simp))
    | (go_at_call 110; refine (linV _ _ _ _ _ hpn.out).mono ?_; rintro e w2 ⟨rfl, rfl⟩))
  all_goals first
    | (go_ret
       exact ⟨ret_bool (by rw [hall0.out]; simp), hw1⟩)
    | skip
  have hws := hw1.size
  have nn : w.heap.size < w1.heap.size := by have := lt_cell y0; omega
  go_loopw [22] (fun i wr => ∃ k : Nat, k ≤ f.methods.length ∧ i = .int .i64 k ∧ Below w1.heap.size w1 wr ∧ Hid (∀ j (h : j < f.methods.length), j < k → Rform.rme f f.methods[j] = true)) (fun i _ => f.methods.length - (intOf i).toNat)
  case atStart => exact ⟨0, by omega, rfl, (by repeat' (first | with_reducible exact Below.refl _ _ | with_reducible assumption | exact Nat.le_refl _ | with_reducible refine Go.Proofs.Ytncmhenfgbcihab.Rd.below_drewN ?_ _ | with_reducible refine Below.alloc ?_ ?_ _ | with_reducible refine Below.setCell ?_ ?_ _ | with_reducible refine Below.drew ?_ | omega | (simp; omega) | (simp; done))), fun j _ h => absurd h (by omega)⟩
  case round =>
    obtain ⟨k, hk, rfl, hq, hall⟩ := hrel
    have hqs := hq.size
    have hwr : Below w.heap.size w wr := hw1.trans (hq.mono hws)
    have hwrs := hwr.size
    have n3 : w.heap.size < wr.heap.size := by omega
    have c1 := kept hq (by omega) y0
    have c2 := kept hq (by omega) y1
    clear y0 y1
    by_cases hlt : k < f.methods.length
    · obtain ⟨b, o, rfl, hb, he⟩ := mel k hlt
      have hyes := Lib.hid (Form.all_step (p := Rform.rme f) hall.out hlt)
      have hno := Lib.hid (Form.all_not (p := Rform.rme f) hlt)
      obtain ⟨t, ht⟩ := at_of hlt
      rw [ht.out] at he hyes hno
      obtain ⟨vp, vd, vh, g0, g1, g2, g3, g4, g5, g6, g7, oks, s1, s2, s3⟩ := he
      have hvm : VMe w w.heap.size (.agg #[vp, .int .i64 t.ret.kind, .int .i64 t.ret.cls, .int .i64 t.stack, .int .i64 t.locals, .int .i64 t.regs, vd, vh]) t := ⟨vp, vd, vh, rfl, oks, s1, s2, s3⟩
      obtain ⟨pa, pcap, rfl, plc, pcc, pel⟩ := s1
      have hts0 : Ts w (.slice pa t.params.length pcap) t.params := ⟨pa, pcap, rfl, plc, pcc, pel⟩
      clear pel
      obtain ⟨da, dcap, rfl, dlc, dcc, del⟩ := s2
      obtain ⟨ha, hcap, rfl, _, _, _⟩ := s3
      have k0 := kept hwr hb g0
      have k1 := kept hwr hb g1
      have k2 := kept hwr hb g2
      have k3 := kept hwr hb g3
      have k4 := kept hwr hb g4
      have k5 := kept hwr hb g5
      have k6 := kept hwr hb g6
      have k7 := kept hwr hb g7
      have hq2 := Lib.hid hq
      have hwr2 := Lib.hid hwr
      have ok5 := oks.2.2.2.2
      have ok4 := oks.2.2.2.1
      have ok3 := oks.2.2.1
      have okr := Lib.hid oks.1
      unfold Ok at ok5 ok4 ok3
      have hltI : (k : Int) < f.methods.length := by omega
      clear g0 g1 g2 g3 g4 g5 g6 g7 oks
      go_wp2_with fail
      refine name_world (fun W => Below w.heap.size w W ∧ Below wr.heap.size wr W ∧ wr.heap.size + 1 ≤ W.heap.size ∧ B2 W w.heap.size (.slice ca f.classes.length ccap) (.slice (some ⟨b, o, none⟩) f.methods.length mcap) ∧ B8 W wr.heap.size (.slice pa t.params.length pcap) (.int .i64 t.ret.kind) (.int .i64 t.ret.cls) (.int .i64 t.stack) (.int .i64 t.locals) (.int .i64 t.regs) (.slice da t.code.length dcap) (.slice ha t.handlers.length hcap)) ?_ ?_
      · refine ⟨(by repeat' (first | with_reducible exact Below.refl _ _ | with_reducible assumption | exact Nat.le_refl _ | with_reducible refine Go.Proofs.Ytncmhenfgbcihab.Rd.below_drewN ?_ _ | with_reducible refine Below.alloc ?_ ?_ _ | with_reducible refine Below.setCell ?_ ?_ _ | with_reducible refine Below.drew ?_ | omega | (simp; omega) | (simp; done))), (by repeat' (first | with_reducible exact Below.refl _ _ | with_reducible assumption | exact Nat.le_refl _ | with_reducible refine Go.Proofs.Ytncmhenfgbcihab.Rd.below_drewN ?_ _ | with_reducible refine Below.alloc ?_ ?_ _ | with_reducible refine Below.setCell ?_ ?_ _ | with_reducible refine Below.drew ?_ | omega | (simp; omega) | (simp; done))), ?_, ⟨?_, ?_⟩, ⟨?_, ?_, ?_, ?_, ?_, ?_, ?_, ?_⟩⟩
        all_goals go_simp
      rintro W ⟨hbw, hbr, hsz, ⟨f1, f2⟩, ⟨m0, m1, m2, m3, m4, m5, m6, m7⟩⟩
      have hbs := hbw.size
      have hfW := hf0.mono hbw hbs
      have hmW := hvm.mono hbw hbs
      have htW := hts0.next hbw
      clear c1 c2 k0 k1 k2 k3 k4 k5 k6 k7 mel
      obtain ⟨ph, hph⟩ : ∃ p, Hid (Form.head f.classes.length t 2400 = p) := ⟨_, rfl⟩
      obtain ⟨Z, hS⟩ : ∃ S, Hid (Form.slots t.params = S) := ⟨_, rfl⟩
      obtain ⟨MX, hMX⟩ : ∃ x, Hid ((if (1 : Int) < (Z : Int) then (Z : Int) else 1) = x) := ⟨_, rfl⟩
      obtain ⟨pl, hpl⟩ : ∃ p, Hid (Form.rng t.regs MX 91 = p) := ⟨_, rfl⟩
      have hMX1 : 1 ≤ MX := by rw [← hMX.out]; split <;> omega
      have hpre : Hid (pre f t = (ph && decide (t.stack = 0) && decide (t.locals = 0) && pl)) := by
        show _ = _
        have hmx : (if (1 : Int) < (Z : Int) then (Z : Int) else 1) = max 1 (Z : Int) := by
          rw [Int.max_def]; split <;> split <;> omega
        rw [← hph.out, ← hpl.out, ← hMX.out, hmx, ← hS.out]; rfl
      cases ph
      ·
        refine wp_region_held_drew (S := fun w' => (w'.cell? ⟨w.heap.size, 0, none⟩ = some (.slice ca f.classes.length ccap) ∧ w'.cell? ⟨w.heap.size, 1, none⟩ = some (.slice (some ⟨b, o, none⟩) f.methods.length mcap)) ∧ w'.cell? ⟨wr.heap.size, 0, none⟩ = some (.slice pa t.params.length pcap) ∧ w'.cell? ⟨wr.heap.size, 1, none⟩ = some (.int .i64 t.ret.kind) ∧ w'.cell? ⟨wr.heap.size, 2, none⟩ = some (.int .i64 t.ret.cls) ∧ w'.cell? ⟨wr.heap.size, 3, none⟩ = some (.int .i64 t.stack) ∧ w'.cell? ⟨wr.heap.size, 4, none⟩ = some (.int .i64 t.locals) ∧ w'.cell? ⟨wr.heap.size, 5, none⟩ = some (.int .i64 t.regs) ∧ w'.cell? ⟨wr.heap.size, 6, none⟩ = some (.slice da t.code.length dcap) ∧ w'.cell? ⟨wr.heap.size, 7, none⟩ = some (.slice ha t.handlers.length hcap)) (by kernel_rfl) (by (try dsimp only); first | exact ⟨⟨f1, f2⟩, m0, m1, m2, m3, m4, m5, m6, m7⟩ | go_keep) (fun hHeld => ?_)
        refine Drawn.tk 0 (some 26) rfl rfl (by assumption) ?_
        try simp only [Act.put, List.setIfInBounds_toArray, List.set_cons_zero, List.set_cons_succ]
        refine Drawn.tk 1 (some 27) rfl rfl (by assumption) ?_
        try simp only [Act.put, List.setIfInBounds_toArray, List.set_cons_zero, List.set_cons_succ]
        refine Drawn.tk 2 (some 28) rfl rfl (by assumption) ?_
        try simp only [Act.put, List.setIfInBounds_toArray, List.set_cons_zero, List.set_cons_succ]
        refine Drawn.tk 3 (some 29) rfl rfl (by assumption) ?_
        try simp only [Act.put, List.setIfInBounds_toArray, List.set_cons_zero, List.set_cons_succ]
        refine wpAnyH_ready (rs := [4]) (by kernel_rfl) (by simp) ?_
        refine AllReadyH.cons rfl (fun K hK => ?_) AllReadyH.nil
        go_simp
        go_at_call 111
        refine (headV f t 2400 _ _ _ _ hph.out (hfW.mono (by repeat' (first | with_reducible exact Below.refl _ _ | with_reducible assumption | exact Nat.le_refl _ | with_reducible refine Go.Proofs.Ytncmhenfgbcihab.Rd.below_drewN ?_ _ | with_reducible refine Below.alloc ?_ ?_ _ | with_reducible refine Below.setCell ?_ ?_ _ | with_reducible refine Below.drew ?_ | omega | (simp; omega) | (simp; done))) (by simp)) (hmW.mono (by repeat' (first | with_reducible exact Below.refl _ _ | with_reducible assumption | exact Nat.le_refl _ | with_reducible refine Go.Proofs.Ytncmhenfgbcihab.Rd.below_drewN ?_ _ | with_reducible refine Below.alloc ?_ ?_ _ | with_reducible refine Below.setCell ?_ ?_ _ | with_reducible refine Below.drew ?_ | omega | (simp; omega) | (simp; done))) (by simp)) (by omega)).mono ?_
        rintro e w2 ⟨rfl, hb2⟩
        have hbW : Below W.heap.size W w2 := Below.trans (by repeat' (first | with_reducible exact Below.refl _ _ | with_reducible assumption | exact Nat.le_refl _ | with_reducible refine Go.Proofs.Ytncmhenfgbcihab.Rd.below_drewN ?_ _ | with_reducible refine Below.alloc ?_ ?_ _ | with_reducible refine Below.setCell ?_ ?_ _ | with_reducible refine Below.drew ?_ | omega | (simp; omega) | (simp; done))) (hb2.mono (by simp))
        have k2 := B2.next ⟨f1, f2⟩ hbW (by omega)
        have k8 := B8.next ⟨m0, m1, m2, m3, m4, m5, m6, m7⟩ hbW (by omega)
        go_wp2_with fail
        refine hK.out _ _ (by (try dsimp only); exact ⟨k2, k8⟩) (fun hHeld => ?_)
        clear hK K
        try simp only [Act.put, List.setIfInBounds_toArray, List.set_cons_zero, List.set_cons_succ]
        refine Drawn.tk 5 (some 31) rfl rfl (by assumption) ?_
        try simp only [Act.put, List.setIfInBounds_toArray, List.set_cons_zero, List.set_cons_succ]

        refine Drawn.ps 6 (some 32) rfl rfl (by assumption) ?_
        try simp only [Act.put, List.setIfInBounds_toArray, List.set_cons_zero, List.set_cons_succ]
        refine Drawn.ps 7 (some 33) rfl rfl (by assumption) ?_
        try simp only [Act.put, List.setIfInBounds_toArray, List.set_cons_zero, List.set_cons_succ]
        refine Drawn.ps 8 (some 34) rfl rfl (by assumption) ?_
        try simp only [Act.put, List.setIfInBounds_toArray, List.set_cons_zero, List.set_cons_succ]
        refine Drawn.tk 9 (some 35) rfl rfl (by assumption) ?_
        try simp only [Act.put, List.setIfInBounds_toArray, List.set_cons_zero, List.set_cons_succ]
        refine Drawn.tk 10 (some 36) rfl rfl (by assumption) ?_
        try simp only [Act.put, List.setIfInBounds_toArray, List.set_cons_zero, List.set_cons_succ]
        refine Drawn.ps 11 (some 37) rfl rfl (by assumption) ?_
        try simp only [Act.put, List.setIfInBounds_toArray, List.set_cons_zero, List.set_cons_succ]
        refine Drawn.ps 12 (some 38) rfl rfl (by assumption) ?_
        try simp only [Act.put, List.setIfInBounds_toArray, List.set_cons_zero, List.set_cons_succ]
        refine Drawn.ps 13 (some 39) rfl rfl (by assumption) ?_
        try simp only [Act.put, List.setIfInBounds_toArray, List.set_cons_zero, List.set_cons_succ]
        refine Drawn.tk 14 (some 40) rfl rfl (by assumption) ?_
        try simp only [Act.put, List.setIfInBounds_toArray, List.set_cons_zero, List.set_cons_succ]
        refine Drawn.tk 15 (some 41) rfl rfl (by assumption) ?_
        try simp only [Act.put, List.setIfInBounds_toArray, List.set_cons_zero, List.set_cons_succ]
        refine Drawn.ps 16 (some 42) rfl rfl (by assumption) ?_
        try simp only [Act.put, List.setIfInBounds_toArray, List.set_cons_zero, List.set_cons_succ]
        refine Drawn.ps 17 (some 43) rfl rfl (by assumption) ?_
        try simp only [Act.put, List.setIfInBounds_toArray, List.set_cons_zero, List.set_cons_succ]
        refine Drawn.ps 18 (some 44) rfl rfl (by assumption) ?_
        try simp only [Act.put, List.setIfInBounds_toArray, List.set_cons_zero, List.set_cons_succ]
        refine Drawn.ps 19 (some 45) rfl rfl (by assumption) ?_
        try simp only [Act.put, List.setIfInBounds_toArray, List.set_cons_zero, List.set_cons_succ]
        refine Drawn.ps 20 (some 46) rfl rfl (by assumption) ?_
        try simp only [Act.put, List.setIfInBounds_toArray, List.set_cons_zero, List.set_cons_succ]
        refine Drawn.ps 21 (some 47) rfl rfl (by assumption) ?_
        try simp only [Act.put, List.setIfInBounds_toArray, List.set_cons_zero, List.set_cons_succ]
        refine Drawn.ps 22 (some 48) rfl rfl (by assumption) ?_
        try simp only [Act.put, List.setIfInBounds_toArray, List.set_cons_zero, List.set_cons_succ]
        refine Drawn.tk 23 (some 49) rfl rfl (by assumption) ?_
        try simp only [Act.put, List.setIfInBounds_toArray, List.set_cons_zero, List.set_cons_succ]
        refine Drawn.tk 24 (some 50) rfl rfl (by assumption) ?_
        try simp only [Act.put, List.setIfInBounds_toArray, List.set_cons_zero, List.set_cons_succ]
        refine wpAnyH_ready (rs := [25]) (by kernel_rfl) (by simp) ?_
        refine AllReadyH.cons rfl (fun K hK => ?_) AllReadyH.nil
        go_simp
        refine hK.out _ _ (by (try dsimp only); obtain ⟨kf, km⟩ : (_ ∧ _) := ⟨k2, k8⟩; have := lt_cell kf.1; have := lt_cell km.1; refine ⟨⟨?_, ?_⟩, ?_, ?_, ?_, ?_, ?_, ?_, ?_, ?_⟩ <;> (obtain ⟨kf0, kf1⟩ := kf; obtain ⟨km0, km1, km2, km3, km4, km5, km6, km7⟩ := km; go_simp)) (fun hHeld => ?_)
        clear hK K
        try simp only [Act.put, List.setIfInBounds_toArray, List.set_cons_zero, List.set_cons_succ]
        refine Drawn.tk 26 (some 5) rfl rfl (by assumption) ?_
        try simp only [Act.put, List.setIfInBounds_toArray, List.set_cons_zero, List.set_cons_succ]
        refine wpAnyH_done (by kernel_rfl) ?_ _
        have hpt : Hid (pre f t = false) := by
          show _ = _
          rw [hpre.out]; rfl
        have hxs := hbW.size
        refine name_world (fun W2 => Hid (Lk W2 w2.heap.size (.slice ca f.classes.length ccap) (.slice (some ⟨b, o, none⟩) f.methods.length mcap) (.slice pa t.params.length pcap) (.slice da t.code.length dcap) (.slice ha t.handlers.length hcap) t false) ∧ Below w2.heap.size w2 W2 ∧ W2.cell? ⟨wr.heap.size, 6, none⟩ = some (.slice da t.code.length dcap)) ?_ ?_
        · refine ⟨?_, (by repeat' (first | with_reducible exact Below.refl _ _ | with_reducible assumption | exact Nat.le_refl _ | with_reducible refine Go.Proofs.Ytncmhenfgbcihab.Rd.below_drewN ?_ _ | with_reducible refine Below.alloc ?_ ?_ _ | with_reducible refine Below.setCell ?_ ?_ _ | with_reducible refine Below.drew ?_ | omega | (simp; omega) | (simp; done))), ?_⟩
          · show Lk _ _ _ _ _ _ _ _ _
            refine ⟨⟨?_, ?_⟩, ⟨?_, ?_, ?_, ?_, ?_, ?_, ?_, ?_⟩, ?_, ?_⟩
            all_goals go_simp
          · obtain ⟨kf, km⟩ : (_ ∧ _) := ⟨k2, k8⟩
            have hz := lt_cell km.1
            have km6 := km.2.2.2.2.2.2.1
            clear kf km
            go_simp
        rintro W2 ⟨hlk0, hbl0, m6'⟩
        have hbl1 : Below wr.heap.size wr W2 := (hbr.trans (hbW.mono hbr.size)).trans (hbl0.mono (by have := hbr.size; omega))
        have hbl2 : Below w.heap.size w W2 := hwr2.out.trans (hbl1.mono hwrs)
        have hblw : w.heap.size ≤ w2.heap.size := by have := hbr.size; omega
        have hl6 := lt_cell m6'
        have hlbs := hlk0.out.lt
        have hlbr : wr.heap.size < w2.heap.size := by have := hbr.size; omega
        clear f1 f2 m0 m1 m2 m3 m4 m5 m6 m7 htW hfW hmW hts0 k2 k8
        go_wp2_with fail
        obtain ⟨wo, rfl⟩ : ∃ wo : World, wo = wr := ⟨_, rfl⟩

        go_loopw [55] (fun i wr => ∃ j : Nat, j ≤ t.code.length ∧ i = .int .i64 j ∧ Hid (Lk wr w2.heap.size (.slice ca f.classes.length ccap) (.slice (some ⟨b, o, none⟩) f.methods.length mcap) (.slice pa t.params.length pcap) (.slice da t.code.length dcap) (.slice ha t.handlers.length hcap) t false) ∧ Keep W2.heap.size w2.heap.size W2 wr) (fun i _ => t.code.length - (intOf i).toNat)
        case atStart => exact ⟨0, by omega, rfl, hlk0, Keep.refl _ _ _⟩
        case round =>
          obtain ⟨j, hj, rfl, hlk, hkp⟩ := hrel
          have hks := hkp.size
          have z10 := hlk.out.2.2.1
          have hlz := hlk.out.lt
          by_cases hlt2 : j < t.code.length
          · obtain ⟨b2, o2, rfl, hb2', he2⟩ := del j hlt2
            obtain ⟨x, hx⟩ := at_of hlt2
            rw [hx.out] at he2
            obtain ⟨g1, g2, g3, g4, g5, oks, va, g6, gargs⟩ := he2
            obtain ⟨aa, acap, rfl, alc, acc, _⟩ := gargs
            have h1 := hkp.cell (by omega) (by omega) (kept hbl2 hb2' g1)
            have h2 := hkp.cell (by omega) (by omega) (kept hbl2 hb2' g2)
            have h3 := hkp.cell (by omega) (by omega) (kept hbl2 hb2' g3)
            have h4 := hkp.cell (by omega) (by omega) (kept hbl2 hb2' g4)
            have h5 := hkp.cell (by omega) (by omega) (kept hbl2 hb2' g5)
            have h6 := hkp.cell (by omega) (by omega) (kept hbl2 hb2' g6)
            have hI2 : (0 : Int) ≤ (j : Int) ∧ (j : Int) < t.code.length := ⟨by omega, by omega⟩
            obtain ⟨hI3, hI4⟩ := hI2
            clear del g1 g2 g3 g4 g5 g6
            go_wp2_with fail
            go_roundw
            case rel => exact ⟨j + 1, by omega, by go_num, Lib.hid (hlk.out.next (Below.alloc (Below.refl _ _) (Nat.le_refl _) _) hlk.out.lt), hkp.trans (Keep.alloc (Keep.refl _ _ _) (by omega) _)⟩
            case measure => simp [intOf]; omega
          · have hge2 : ¬ (j : Int) < t.code.length := by omega
            have hkb : Below w.heap.size w wr := hbl2.trans (hkp.below (by omega) (by omega))
            clear del
            go_wp2_with fail
            go_ret
            exact ⟨ret_bool (by rw [hall0.out]; simp [hno.out (by rw [rme_eq, hpt.out]; rfl)]), hkb⟩
      · by_cases hs0 : t.stack = 0
        · have hst0 : (t.stack == 0) = true := by simpa using hs0
          have HS0 := Lib.hid hs0
          clear hs0
          by_cases hl0 : t.locals = 0
          · have hlo0 : (t.locals == 0) = true := by simpa using hl0
            have HL0 := Lib.hid hl0
            clear hl0
            have hp4 : t.params.length ≤ 4 := by
              have h := hph.out
              simp only [Form.head, Bool.and_eq_true, decide_eq_true_eq] at h
              exact h.1.1.1.2
            refine wp_region_held_drew (S := fun w' => (w'.cell? ⟨w.heap.size, 0, none⟩ = some (.slice ca f.classes.length ccap) ∧ w'.cell? ⟨w.heap.size, 1, none⟩ = some (.slice (some ⟨b, o, none⟩) f.methods.length mcap)) ∧ w'.cell? ⟨wr.heap.size, 0, none⟩ = some (.slice pa t.params.length pcap) ∧ w'.cell? ⟨wr.heap.size, 1, none⟩ = some (.int .i64 t.ret.kind) ∧ w'.cell? ⟨wr.heap.size, 2, none⟩ = some (.int .i64 t.ret.cls) ∧ w'.cell? ⟨wr.heap.size, 3, none⟩ = some (.int .i64 t.stack) ∧ w'.cell? ⟨wr.heap.size, 4, none⟩ = some (.int .i64 t.locals) ∧ w'.cell? ⟨wr.heap.size, 5, none⟩ = some (.int .i64 t.regs) ∧ w'.cell? ⟨wr.heap.size, 6, none⟩ = some (.slice da t.code.length dcap) ∧ w'.cell? ⟨wr.heap.size, 7, none⟩ = some (.slice ha t.handlers.length hcap)) (by kernel_rfl) (by (try dsimp only); first | exact ⟨⟨f1, f2⟩, m0, m1, m2, m3, m4, m5, m6, m7⟩ | go_keep) (fun hHeld => ?_)
            refine Drawn.tk 0 (some 26) rfl rfl (by assumption) ?_
            try simp only [Act.put, List.setIfInBounds_toArray, List.set_cons_zero, List.set_cons_succ]
            refine Drawn.tk 1 (some 27) rfl rfl (by assumption) ?_
            try simp only [Act.put, List.setIfInBounds_toArray, List.set_cons_zero, List.set_cons_succ]
            refine Drawn.tk 2 (some 28) rfl rfl (by assumption) ?_
            try simp only [Act.put, List.setIfInBounds_toArray, List.set_cons_zero, List.set_cons_succ]
            refine Drawn.tk 3 (some 29) rfl rfl (by assumption) ?_
            try simp only [Act.put, List.setIfInBounds_toArray, List.set_cons_zero, List.set_cons_succ]
            refine wpAnyH_ready (rs := [4]) (by kernel_rfl) (by simp) ?_
            refine AllReadyH.cons rfl (fun K hK => ?_) AllReadyH.nil
            go_simp
            go_at_call 111
            refine (headV f t 2400 _ _ _ _ hph.out (hfW.mono (by repeat' (first | with_reducible exact Below.refl _ _ | with_reducible assumption | exact Nat.le_refl _ | with_reducible refine Go.Proofs.Ytncmhenfgbcihab.Rd.below_drewN ?_ _ | with_reducible refine Below.alloc ?_ ?_ _ | with_reducible refine Below.setCell ?_ ?_ _ | with_reducible refine Below.drew ?_ | omega | (simp; omega) | (simp; done))) (by simp)) (hmW.mono (by repeat' (first | with_reducible exact Below.refl _ _ | with_reducible assumption | exact Nat.le_refl _ | with_reducible refine Go.Proofs.Ytncmhenfgbcihab.Rd.below_drewN ?_ _ | with_reducible refine Below.alloc ?_ ?_ _ | with_reducible refine Below.setCell ?_ ?_ _ | with_reducible refine Below.drew ?_ | omega | (simp; omega) | (simp; done))) (by simp)) (by omega)).mono ?_
            rintro e w2 ⟨rfl, hb2⟩
            have hbW : Below W.heap.size W w2 := Below.trans (by repeat' (first | with_reducible exact Below.refl _ _ | with_reducible assumption | exact Nat.le_refl _ | with_reducible refine Go.Proofs.Ytncmhenfgbcihab.Rd.below_drewN ?_ _ | with_reducible refine Below.alloc ?_ ?_ _ | with_reducible refine Below.setCell ?_ ?_ _ | with_reducible refine Below.drew ?_ | omega | (simp; omega) | (simp; done))) (hb2.mono (by simp))
            have k2 := B2.next ⟨f1, f2⟩ hbW (by omega)
            have k8 := B8.next ⟨m0, m1, m2, m3, m4, m5, m6, m7⟩ hbW (by omega)
            go_wp2_with fail
            refine hK.out _ _ (by (try dsimp only); exact ⟨k2, k8⟩) (fun hHeld => ?_)
            clear hK K
            try simp only [Act.put, List.setIfInBounds_toArray, List.set_cons_zero, List.set_cons_succ]
            refine Drawn.tk 5 (some 31) rfl rfl (by assumption) ?_
            try simp only [Act.put, List.setIfInBounds_toArray, List.set_cons_zero, List.set_cons_succ]

            refine Drawn.tk 6 (some 32) rfl rfl (by assumption) ?_
            try simp only [Act.put, List.setIfInBounds_toArray, List.set_cons_zero, List.set_cons_succ]
            refine Drawn.tk 7 (some 33) rfl rfl (by assumption) ?_
            try simp only [Act.put, List.setIfInBounds_toArray, List.set_cons_zero, List.set_cons_succ]
            refine Drawn.tk 8 (some 34) rfl rfl (by assumption) ?_
            try simp only [Act.put, List.setIfInBounds_toArray, List.set_cons_zero, List.set_cons_succ]
            refine Drawn.tk 9 (some 35) rfl rfl (by assumption) ?_
            try simp only [Act.put, List.setIfInBounds_toArray, List.set_cons_zero, List.set_cons_succ]
            refine Drawn.tk 10 (some 36) rfl rfl (by assumption) ?_
            try simp only [Act.put, List.setIfInBounds_toArray, List.set_cons_zero, List.set_cons_succ]
            refine Drawn.tk 11 (some 37) rfl rfl (by assumption) ?_
            try simp only [Act.put, List.setIfInBounds_toArray, List.set_cons_zero, List.set_cons_succ]
            refine Drawn.tk 12 (some 38) rfl rfl (by assumption) ?_
            try simp only [Act.put, List.setIfInBounds_toArray, List.set_cons_zero, List.set_cons_succ]
            refine Drawn.tk 13 (some 39) rfl rfl (by assumption) ?_
            try simp only [Act.put, List.setIfInBounds_toArray, List.set_cons_zero, List.set_cons_succ]
            refine Drawn.tk 14 (some 40) rfl rfl (by assumption) ?_
            try simp only [Act.put, List.setIfInBounds_toArray, List.set_cons_zero, List.set_cons_succ]
            refine Drawn.tk 15 (some 41) rfl rfl (by assumption) ?_
            try simp only [Act.put, List.setIfInBounds_toArray, List.set_cons_zero, List.set_cons_succ]
            refine Drawn.tk 16 (some 42) rfl rfl (by assumption) ?_
            try simp only [Act.put, List.setIfInBounds_toArray, List.set_cons_zero, List.set_cons_succ]
            refine Drawn.tk 17 (some 43) rfl rfl (by assumption) ?_
            try simp only [Act.put, List.setIfInBounds_toArray, List.set_cons_zero, List.set_cons_succ]
            refine Drawn.tk 18 (some 44) rfl rfl (by assumption) ?_
            try simp only [Act.put, List.setIfInBounds_toArray, List.set_cons_zero, List.set_cons_succ]
            refine Drawn.tk 19 (some 45) rfl rfl (by assumption) ?_
            try simp only [Act.put, List.setIfInBounds_toArray, List.set_cons_zero, List.set_cons_succ]
            refine wpAnyH_ready (rs := [20]) (by kernel_rfl) (by simp) ?_
            refine AllReadyH.cons rfl (fun K hK => ?_) AllReadyH.nil
            go_simp
            go_at_call 92
            refine (slotsV _ t.params Z _ (htW.next hbW) (by omega) hS.out).mono ?_
            rintro e w4 ⟨rfl, hb4⟩
            have hbX : Below W.heap.size W w4 := hbW.trans (hb4.mono hbW.size)
            have x2 := B2.next ⟨f1, f2⟩ hbX (by omega)
            have x8 := B8.next ⟨m0, m1, m2, m3, m4, m5, m6, m7⟩ hbX (by omega)
            go_wp2_with fail
            refine hK.out _ _ (by (try dsimp only); exact ⟨x2, x8⟩) (fun hHeld => ?_)
            clear hK K
            try simp only [Act.put, List.setIfInBounds_toArray, List.set_cons_zero, List.set_cons_succ]
            have hif := hMX.out
            refine Drawn.tk 21 (some 47) rfl rfl (by assumption) ?_
            try simp only [Act.put, List.setIfInBounds_toArray, List.set_cons_zero, List.set_cons_succ]
            clear hif
            refine wpAnyH_ready (rs := [22]) (by kernel_rfl) (by simp) ?_
            refine AllReadyH.cons rfl (fun K hK => ?_) AllReadyH.nil
            go_simp
            go_at_call 110
            refine (linV _ _ _ _ _ hpl.out).mono ?_
            rintro e w5 ⟨rfl, rfl⟩
            go_wp2_with fail
            refine hK.out _ _ (by (try dsimp only); exact ⟨x2, x8⟩) (fun hHeld => ?_)
            clear hK K
            try simp only [Act.put, List.setIfInBounds_toArray, List.set_cons_zero, List.set_cons_succ]
            refine Drawn.tk 23 (some 49) rfl rfl (by assumption) ?_
            try simp only [Act.put, List.setIfInBounds_toArray, List.set_cons_zero, List.set_cons_succ]
            have hbX3 := hbX.size
            cases pl
            ·
              refine Drawn.tk 24 (some 50) rfl rfl (by assumption) ?_
              try simp only [Act.put, List.setIfInBounds_toArray, List.set_cons_zero, List.set_cons_succ]
              refine wpAnyH_ready (rs := [25]) (by kernel_rfl) (by simp) ?_
              refine AllReadyH.cons rfl (fun K hK => ?_) AllReadyH.nil
              go_simp
              refine hK.out _ _ (by (try dsimp only); obtain ⟨kf, km⟩ : (_ ∧ _) := ⟨x2, x8⟩; have := lt_cell kf.1; have := lt_cell km.1; refine ⟨⟨?_, ?_⟩, ?_, ?_, ?_, ?_, ?_, ?_, ?_, ?_⟩ <;> (obtain ⟨kf0, kf1⟩ := kf; obtain ⟨km0, km1, km2, km3, km4, km5, km6, km7⟩ := km; go_simp)) (fun hHeld => ?_)
              clear hK K
              try simp only [Act.put, List.setIfInBounds_toArray, List.set_cons_zero, List.set_cons_succ]
              refine Drawn.tk 26 (some 5) rfl rfl (by assumption) ?_
              try simp only [Act.put, List.setIfInBounds_toArray, List.set_cons_zero, List.set_cons_succ]
              refine wpAnyH_done (by kernel_rfl) ?_ _

              have hpt : Hid (pre f t = false) := by
                show _ = _
                rw [hpre.out]; simp
              have hxs := hbX.size
              refine name_world (fun W2 => Hid (Lk W2 w4.heap.size (.slice ca f.classes.length ccap) (.slice (some ⟨b, o, none⟩) f.methods.length mcap) (.slice pa t.params.length pcap) (.slice da t.code.length dcap) (.slice ha t.handlers.length hcap) t false) ∧ Below w4.heap.size w4 W2 ∧ W2.cell? ⟨wr.heap.size, 6, none⟩ = some (.slice da t.code.length dcap)) ?_ ?_
              · refine ⟨?_, (by repeat' (first | with_reducible exact Below.refl _ _ | with_reducible assumption | exact Nat.le_refl _ | with_reducible refine Go.Proofs.Ytncmhenfgbcihab.Rd.below_drewN ?_ _ | with_reducible refine Below.alloc ?_ ?_ _ | with_reducible refine Below.setCell ?_ ?_ _ | with_reducible refine Below.drew ?_ | omega | (simp; omega) | (simp; done))), ?_⟩
                · show Lk _ _ _ _ _ _ _ _ _
                  refine ⟨⟨?_, ?_⟩, ⟨?_, ?_, ?_, ?_, ?_, ?_, ?_, ?_⟩, ?_, ?_⟩
                  all_goals go_simp
                · obtain ⟨kf, km⟩ : (_ ∧ _) := ⟨x2, x8⟩
                  have hz := lt_cell km.1
                  have km6 := km.2.2.2.2.2.2.1
                  clear kf km
                  go_simp
              rintro W2 ⟨hlk0, hbl0, m6'⟩
              have hbl1 : Below wr.heap.size wr W2 := (hbr.trans (hbX.mono hbr.size)).trans (hbl0.mono (by have := hbr.size; omega))
              have hbl2 : Below w.heap.size w W2 := hwr2.out.trans (hbl1.mono hwrs)
              have hblw : w.heap.size ≤ w4.heap.size := by have := hbr.size; omega
              have hl6 := lt_cell m6'
              have hlbs := hlk0.out.lt
              have hlbr : wr.heap.size < w4.heap.size := by have := hbr.size; omega
              clear f1 f2 m0 m1 m2 m3 m4 m5 m6 m7 htW hfW hmW hts0 k2 k8
              go_wp2_with fail
              obtain ⟨wo, rfl⟩ : ∃ wo : World, wo = wr := ⟨_, rfl⟩

              go_loopw [55] (fun i wr => ∃ j : Nat, j ≤ t.code.length ∧ i = .int .i64 j ∧ Hid (Lk wr w4.heap.size (.slice ca f.classes.length ccap) (.slice (some ⟨b, o, none⟩) f.methods.length mcap) (.slice pa t.params.length pcap) (.slice da t.code.length dcap) (.slice ha t.handlers.length hcap) t false) ∧ Keep W2.heap.size w4.heap.size W2 wr) (fun i _ => t.code.length - (intOf i).toNat)
              case atStart => exact ⟨0, by omega, rfl, hlk0, Keep.refl _ _ _⟩
              case round =>
                obtain ⟨j, hj, rfl, hlk, hkp⟩ := hrel
                have hks := hkp.size
                have z10 := hlk.out.2.2.1
                have hlz := hlk.out.lt
                by_cases hlt2 : j < t.code.length
                · obtain ⟨b2, o2, rfl, hb2', he2⟩ := del j hlt2
                  obtain ⟨x, hx⟩ := at_of hlt2
                  rw [hx.out] at he2
                  obtain ⟨g1, g2, g3, g4, g5, oks, va, g6, gargs⟩ := he2
                  obtain ⟨aa, acap, rfl, alc, acc, _⟩ := gargs
                  have h1 := hkp.cell (by omega) (by omega) (kept hbl2 hb2' g1)
                  have h2 := hkp.cell (by omega) (by omega) (kept hbl2 hb2' g2)
                  have h3 := hkp.cell (by omega) (by omega) (kept hbl2 hb2' g3)
                  have h4 := hkp.cell (by omega) (by omega) (kept hbl2 hb2' g4)
                  have h5 := hkp.cell (by omega) (by omega) (kept hbl2 hb2' g5)
                  have h6 := hkp.cell (by omega) (by omega) (kept hbl2 hb2' g6)
                  have hI2 : (0 : Int) ≤ (j : Int) ∧ (j : Int) < t.code.length := ⟨by omega, by omega⟩
                  obtain ⟨hI3, hI4⟩ := hI2
                  clear del g1 g2 g3 g4 g5 g6
                  go_wp2_with fail
                  go_roundw
                  case rel => exact ⟨j + 1, by omega, by go_num, Lib.hid (hlk.out.next (Below.alloc (Below.refl _ _) (Nat.le_refl _) _) hlk.out.lt), hkp.trans (Keep.alloc (Keep.refl _ _ _) (by omega) _)⟩
                  case measure => simp [intOf]; omega
                · have hge2 : ¬ (j : Int) < t.code.length := by omega
                  have hkb : Below w.heap.size w wr := hbl2.trans (hkp.below (by omega) (by omega))
                  clear del
                  go_wp2_with fail
                  go_ret
                  exact ⟨ret_bool (by rw [hall0.out]; simp [hno.out (by rw [rme_eq, hpt.out]; rfl)]), hkb⟩
            · have hregs : 0 ≤ t.regs ∧ t.regs ≤ 90 := by
                have h := hpl.out
                simp only [Form.rng, decide_eq_true_eq] at h
                omega
              refine Drawn.tk 24 (some 50) rfl rfl (by assumption) ?_
              try simp only [Act.put, List.setIfInBounds_toArray, List.set_cons_zero, List.set_cons_succ]
              refine wpAnyH_ready (rs := [25]) (by kernel_rfl) (by simp) ?_
              refine AllReadyH.cons rfl (fun K hK => ?_) AllReadyH.nil
              go_simp
              refine hK.out _ _ (by (try dsimp only); obtain ⟨kf, km⟩ : (_ ∧ _) := ⟨x2, x8⟩; have := lt_cell kf.1; have := lt_cell km.1; refine ⟨⟨?_, ?_⟩, ?_, ?_, ?_, ?_, ?_, ?_, ?_, ?_⟩ <;> (obtain ⟨kf0, kf1⟩ := kf; obtain ⟨km0, km1, km2, km3, km4, km5, km6, km7⟩ := km; go_simp)) (fun hHeld => ?_)
              clear hK K
              try simp only [Act.put, List.setIfInBounds_toArray, List.set_cons_zero, List.set_cons_succ]
              refine Drawn.tk 26 (some 5) rfl rfl (by assumption) ?_
              try simp only [Act.put, List.setIfInBounds_toArray, List.set_cons_zero, List.set_cons_succ]
              refine wpAnyH_done (by kernel_rfl) ?_ _

              have hpt : Hid (pre f t = true) := by
                show _ = _
                rw [hpre.out, decide_eq_true HS0.out, decide_eq_true HL0.out]; rfl
              have hxs := hbX.size
              refine name_world (fun W2 => Hid (Lk W2 w4.heap.size (.slice ca f.classes.length ccap) (.slice (some ⟨b, o, none⟩) f.methods.length mcap) (.slice pa t.params.length pcap) (.slice da t.code.length dcap) (.slice ha t.handlers.length hcap) t true) ∧ Below w4.heap.size w4 W2 ∧ W2.cell? ⟨wr.heap.size, 6, none⟩ = some (.slice da t.code.length dcap)) ?_ ?_
              · refine ⟨?_, (by repeat' (first | with_reducible exact Below.refl _ _ | with_reducible assumption | exact Nat.le_refl _ | with_reducible refine Go.Proofs.Ytncmhenfgbcihab.Rd.below_drewN ?_ _ | with_reducible refine Below.alloc ?_ ?_ _ | with_reducible refine Below.setCell ?_ ?_ _ | with_reducible refine Below.drew ?_ | omega | (simp; omega) | (simp; done))), ?_⟩
                · show Lk _ _ _ _ _ _ _ _ _
                  refine ⟨⟨?_, ?_⟩, ⟨?_, ?_, ?_, ?_, ?_, ?_, ?_, ?_⟩, ?_, ?_⟩
                  all_goals go_simp
                · obtain ⟨kf, km⟩ : (_ ∧ _) := ⟨x2, x8⟩
                  have hz := lt_cell km.1
                  have km6 := km.2.2.2.2.2.2.1
                  clear kf km
                  go_simp
              rintro W2 ⟨hlk0, hbl0, m6'⟩
              have hbl1 : Below wr.heap.size wr W2 := (hbr.trans (hbX.mono hbr.size)).trans (hbl0.mono (by have := hbr.size; omega))
              have hbl2 : Below w.heap.size w W2 := hwr2.out.trans (hbl1.mono hwrs)
              have hblw : w.heap.size ≤ w4.heap.size := by have := hbr.size; omega
              have hl6 := lt_cell m6'
              have hlbs := hlk0.out.lt
              have hlbr : wr.heap.size < w4.heap.size := by have := hbr.size; omega
              clear f1 f2 m0 m1 m2 m3 m4 m5 m6 m7 htW hfW hmW hts0 k2 k8
              go_wp2_with fail
              obtain ⟨wo, rfl⟩ : ∃ wo : World, wo = wr := ⟨_, rfl⟩

              have hFit : Hid (Fit f t f.classes.length ccap dcap) := ⟨clc, ccc, dlc, dcc, hregs⟩
              go_loopw [55] (fun i wr => ∃ j : Nat, j ≤ t.code.length ∧ i = .int .i64 j ∧ Hid (Lk wr w4.heap.size (.slice ca f.classes.length ccap) (.slice (some ⟨b, o, none⟩) f.methods.length mcap) (.slice pa t.params.length pcap) (.slice da t.code.length dcap) (.slice ha t.handlers.length hcap) t (insTo f t j)) ∧ Keep W2.heap.size w4.heap.size W2 wr) (fun i _ => t.code.length - (intOf i).toNat)
              case atStart => exact ⟨0, by omega, rfl, by show Lk _ _ _ _ _ _ _ _ _; simpa [insTo] using hlk0.out, Keep.refl _ _ _⟩
              case round =>
                obtain ⟨j, hj, rfl, hlk, hkp⟩ := hrel
                have hks := hkp.size
                have hlz := hlk.out.lt
                have hkb : Below w.heap.size w wr := hbl2.trans (hkp.below (by omega) (by omega))
                by_cases hlt2 : j < t.code.length
                · obtain ⟨b2, o2, rfl, hb2', he2⟩ := del j hlt2
                  have hst := Lib.hid (insTo_succ (f := f) hlt2)
                  obtain ⟨x, hx⟩ := at_of hlt2
                  rw [hx.out] at he2 hst
                  obtain ⟨g1, g2, g3, g4, g5, oks, va, g6, gargs⟩ := he2
                  have hvi : VIns w w.heap.size (.agg #[.int .i64 x.op, .int .i64 x.a, .int .i64 x.b, .int .i64 x.c, .int .i64 x.n, va]) x := ⟨va, rfl, oks, gargs⟩
                  have hvi2 := Lib.hid hvi
                  clear hvi
                  obtain ⟨aa, acap, rfl, alc, acc, _⟩ := gargs
                  have h1 := hkp.cell (by omega) (by omega) (kept hbl2 hb2' g1)
                  have h2 := hkp.cell (by omega) (by omega) (kept hbl2 hb2' g2)
                  have h3 := hkp.cell (by omega) (by omega) (kept hbl2 hb2' g3)
                  have h4 := hkp.cell (by omega) (by omega) (kept hbl2 hb2' g4)
                  have h5 := hkp.cell (by omega) (by omega) (kept hbl2 hb2' g5)
                  have h6 := hkp.cell (by omega) (by omega) (kept hbl2 hb2' g6)
                  have hI2 : (0 : Int) ≤ (j : Int) ∧ (j : Int) < t.code.length := ⟨by omega, by omega⟩
                  obtain ⟨hI3, hI4⟩ := hI2
                  obtain ⟨q, hq7⟩ : ∃ q, Hid (insTo f t j = q) := ⟨_, rfl⟩
                  rw [hq7.out] at hlk hst
                  have z10 := hlk.out.2.2.1
                  clear del g1 g2 g3 g4 g5 g6
                  cases q
                  · go_wp2_with fail
                    go_roundw
                    case rel =>
                      refine ⟨j + 1, by omega, by go_num, ?_, hkp.trans (Keep.alloc (Keep.refl _ _ _) (by omega) _)⟩
                      rw [hst.out]
                      exact (hlk.out.next (Below.alloc (Below.refl _ _) (Nat.le_refl _) _) hlk.out.lt)
                    case measure => simp [intOf]; omega
                  · go_wp2_with fail
                    have hkc := hkb.alloc (by omega) (.cells #[.int .i64 x.op, .int .i64 x.a, .int .i64 x.b, .int .i64 x.c, .int .i64 x.n, .slice aa x.args.length acap] 63)
                    refine (Look.ins f t x _ w4.heap.size ca ccap _ _ _ dcap _ _ (hlk.out.next (Below.alloc (Below.refl _ _) (Nat.le_refl _) _) hlk.out.lt) hFit.out okr.out w.heap.size hblw (Sl.mono mCls hcs2.out hkc (Nat.le_refl _)) (Sl.mono mMe hms2.out hkc (Nat.le_refl _)) (hvi2.out.mono hkc (Nat.le_refl _))).mono ?_
                    rintro e w6 ⟨rfl, hA, hK6⟩
                    have hA2 := Lib.hid hA
                    clear hA hkc
                    go_wp2_with fail
                    go_roundw
                    case rel =>
                      refine ⟨j + 1, by omega, by go_num, ?_, hkp.trans (Keep.trans (Keep.alloc (Keep.refl _ _ _) hks _) (hK6.mono (by simp; omega)))⟩
                      rw [hst.out, Bool.true_and]
                      exact hA2.out
                    case measure => simp [intOf]; omega
                · have hge2 : ¬ (j : Int) < t.code.length := by omega
                  have hjj : Hid (j = t.code.length) := by show _ = _; omega
                  obtain ⟨q, hq7⟩ : ∃ q, Hid (insTo f t j = q) := ⟨_, rfl⟩
                  rw [hq7.out] at hlk
                  have hrm : Hid (Rform.rme f t = q) := by show _ = _; rw [rme_eq, hpt.out, ← hq7.out, hjj.out]; rfl
                  have z10 := hlk.out.2.2.1
                  clear del
                  cases q
                  · go_wp2_with fail
                    go_ret
                    exact ⟨ret_bool (by rw [hall0.out]; simp [hno.out hrm.out]), hkb⟩
                  · have hh := Lib.hid (hyes.out hrm.out)
                    have hfin : Below w1.heap.size w1 wr := hq2.out.trans ((hbl1.trans (hkp.below (by omega) (by omega))).mono hqs)
                    go_wp2_with fail
                    go_roundw
                    case rel => exact ⟨k + 1, by omega, by go_num, hfin, hh.out⟩
                    case measure => simp [intOf]; omega
          · have hlo0 : (t.locals == 0) = false := by simpa using hl0
            have HL0 := Lib.hid hl0
            clear hl0
            refine wp_region_held_drew (S := fun w' => (w'.cell? ⟨w.heap.size, 0, none⟩ = some (.slice ca f.classes.length ccap) ∧ w'.cell? ⟨w.heap.size, 1, none⟩ = some (.slice (some ⟨b, o, none⟩) f.methods.length mcap)) ∧ w'.cell? ⟨wr.heap.size, 0, none⟩ = some (.slice pa t.params.length pcap) ∧ w'.cell? ⟨wr.heap.size, 1, none⟩ = some (.int .i64 t.ret.kind) ∧ w'.cell? ⟨wr.heap.size, 2, none⟩ = some (.int .i64 t.ret.cls) ∧ w'.cell? ⟨wr.heap.size, 3, none⟩ = some (.int .i64 t.stack) ∧ w'.cell? ⟨wr.heap.size, 4, none⟩ = some (.int .i64 t.locals) ∧ w'.cell? ⟨wr.heap.size, 5, none⟩ = some (.int .i64 t.regs) ∧ w'.cell? ⟨wr.heap.size, 6, none⟩ = some (.slice da t.code.length dcap) ∧ w'.cell? ⟨wr.heap.size, 7, none⟩ = some (.slice ha t.handlers.length hcap)) (by kernel_rfl) (by (try dsimp only); first | exact ⟨⟨f1, f2⟩, m0, m1, m2, m3, m4, m5, m6, m7⟩ | go_keep) (fun hHeld => ?_)
            refine Drawn.tk 0 (some 26) rfl rfl (by assumption) ?_
            try simp only [Act.put, List.setIfInBounds_toArray, List.set_cons_zero, List.set_cons_succ]
            refine Drawn.tk 1 (some 27) rfl rfl (by assumption) ?_
            try simp only [Act.put, List.setIfInBounds_toArray, List.set_cons_zero, List.set_cons_succ]
            refine Drawn.tk 2 (some 28) rfl rfl (by assumption) ?_
            try simp only [Act.put, List.setIfInBounds_toArray, List.set_cons_zero, List.set_cons_succ]
            refine Drawn.tk 3 (some 29) rfl rfl (by assumption) ?_
            try simp only [Act.put, List.setIfInBounds_toArray, List.set_cons_zero, List.set_cons_succ]
            refine wpAnyH_ready (rs := [4]) (by kernel_rfl) (by simp) ?_
            refine AllReadyH.cons rfl (fun K hK => ?_) AllReadyH.nil
            go_simp
            go_at_call 111
            refine (headV f t 2400 _ _ _ _ hph.out (hfW.mono (by repeat' (first | with_reducible exact Below.refl _ _ | with_reducible assumption | exact Nat.le_refl _ | with_reducible refine Go.Proofs.Ytncmhenfgbcihab.Rd.below_drewN ?_ _ | with_reducible refine Below.alloc ?_ ?_ _ | with_reducible refine Below.setCell ?_ ?_ _ | with_reducible refine Below.drew ?_ | omega | (simp; omega) | (simp; done))) (by simp)) (hmW.mono (by repeat' (first | with_reducible exact Below.refl _ _ | with_reducible assumption | exact Nat.le_refl _ | with_reducible refine Go.Proofs.Ytncmhenfgbcihab.Rd.below_drewN ?_ _ | with_reducible refine Below.alloc ?_ ?_ _ | with_reducible refine Below.setCell ?_ ?_ _ | with_reducible refine Below.drew ?_ | omega | (simp; omega) | (simp; done))) (by simp)) (by omega)).mono ?_
            rintro e w2 ⟨rfl, hb2⟩
            have hbW : Below W.heap.size W w2 := Below.trans (by repeat' (first | with_reducible exact Below.refl _ _ | with_reducible assumption | exact Nat.le_refl _ | with_reducible refine Go.Proofs.Ytncmhenfgbcihab.Rd.below_drewN ?_ _ | with_reducible refine Below.alloc ?_ ?_ _ | with_reducible refine Below.setCell ?_ ?_ _ | with_reducible refine Below.drew ?_ | omega | (simp; omega) | (simp; done))) (hb2.mono (by simp))
            have k2 := B2.next ⟨f1, f2⟩ hbW (by omega)
            have k8 := B8.next ⟨m0, m1, m2, m3, m4, m5, m6, m7⟩ hbW (by omega)
            go_wp2_with fail
            refine hK.out _ _ (by (try dsimp only); exact ⟨k2, k8⟩) (fun hHeld => ?_)
            clear hK K
            try simp only [Act.put, List.setIfInBounds_toArray, List.set_cons_zero, List.set_cons_succ]
            refine Drawn.tk 5 (some 31) rfl rfl (by assumption) ?_
            try simp only [Act.put, List.setIfInBounds_toArray, List.set_cons_zero, List.set_cons_succ]

            refine Drawn.tk 6 (some 32) rfl rfl (by assumption) ?_
            try simp only [Act.put, List.setIfInBounds_toArray, List.set_cons_zero, List.set_cons_succ]
            refine Drawn.tk 7 (some 33) rfl rfl (by assumption) ?_
            try simp only [Act.put, List.setIfInBounds_toArray, List.set_cons_zero, List.set_cons_succ]
            refine Drawn.tk 8 (some 34) rfl rfl (by assumption) ?_
            try simp only [Act.put, List.setIfInBounds_toArray, List.set_cons_zero, List.set_cons_succ]
            refine Drawn.tk 9 (some 35) rfl rfl (by assumption) ?_
            try simp only [Act.put, List.setIfInBounds_toArray, List.set_cons_zero, List.set_cons_succ]
            refine Drawn.tk 10 (some 36) rfl rfl (by assumption) ?_
            try simp only [Act.put, List.setIfInBounds_toArray, List.set_cons_zero, List.set_cons_succ]
            refine Drawn.tk 11 (some 37) rfl rfl (by assumption) ?_
            try simp only [Act.put, List.setIfInBounds_toArray, List.set_cons_zero, List.set_cons_succ]
            refine Drawn.tk 12 (some 38) rfl rfl (by assumption) ?_
            try simp only [Act.put, List.setIfInBounds_toArray, List.set_cons_zero, List.set_cons_succ]
            refine Drawn.tk 13 (some 39) rfl rfl (by assumption) ?_
            try simp only [Act.put, List.setIfInBounds_toArray, List.set_cons_zero, List.set_cons_succ]
            refine Drawn.tk 14 (some 40) rfl rfl (by assumption) ?_
            try simp only [Act.put, List.setIfInBounds_toArray, List.set_cons_zero, List.set_cons_succ]
            refine Drawn.tk 15 (some 41) rfl rfl (by assumption) ?_
            try simp only [Act.put, List.setIfInBounds_toArray, List.set_cons_zero, List.set_cons_succ]
            refine Drawn.ps 16 (some 42) rfl rfl (by assumption) ?_
            try simp only [Act.put, List.setIfInBounds_toArray, List.set_cons_zero, List.set_cons_succ]
            refine Drawn.ps 17 (some 43) rfl rfl (by assumption) ?_
            try simp only [Act.put, List.setIfInBounds_toArray, List.set_cons_zero, List.set_cons_succ]
            refine Drawn.ps 18 (some 44) rfl rfl (by assumption) ?_
            try simp only [Act.put, List.setIfInBounds_toArray, List.set_cons_zero, List.set_cons_succ]
            refine Drawn.ps 19 (some 45) rfl rfl (by assumption) ?_
            try simp only [Act.put, List.setIfInBounds_toArray, List.set_cons_zero, List.set_cons_succ]
            refine Drawn.ps 20 (some 46) rfl rfl (by assumption) ?_
            try simp only [Act.put, List.setIfInBounds_toArray, List.set_cons_zero, List.set_cons_succ]
            refine Drawn.ps 21 (some 47) rfl rfl (by assumption) ?_
            try simp only [Act.put, List.setIfInBounds_toArray, List.set_cons_zero, List.set_cons_succ]
            refine Drawn.ps 22 (some 48) rfl rfl (by assumption) ?_
            try simp only [Act.put, List.setIfInBounds_toArray, List.set_cons_zero, List.set_cons_succ]
            refine Drawn.tk 23 (some 49) rfl rfl (by assumption) ?_
            try simp only [Act.put, List.setIfInBounds_toArray, List.set_cons_zero, List.set_cons_succ]
            refine Drawn.tk 24 (some 50) rfl rfl (by assumption) ?_
            try simp only [Act.put, List.setIfInBounds_toArray, List.set_cons_zero, List.set_cons_succ]
            refine wpAnyH_ready (rs := [25]) (by kernel_rfl) (by simp) ?_
            refine AllReadyH.cons rfl (fun K hK => ?_) AllReadyH.nil
            go_simp
            refine hK.out _ _ (by (try dsimp only); obtain ⟨kf, km⟩ : (_ ∧ _) := ⟨k2, k8⟩; have := lt_cell kf.1; have := lt_cell km.1; refine ⟨⟨?_, ?_⟩, ?_, ?_, ?_, ?_, ?_, ?_, ?_, ?_⟩ <;> (obtain ⟨kf0, kf1⟩ := kf; obtain ⟨km0, km1, km2, km3, km4, km5, km6, km7⟩ := km; go_simp)) (fun hHeld => ?_)
            clear hK K
            try simp only [Act.put, List.setIfInBounds_toArray, List.set_cons_zero, List.set_cons_succ]
            refine Drawn.tk 26 (some 5) rfl rfl (by assumption) ?_
            try simp only [Act.put, List.setIfInBounds_toArray, List.set_cons_zero, List.set_cons_succ]
            refine wpAnyH_done (by kernel_rfl) ?_ _
            have hpt : Hid (pre f t = false) := by
              show _ = _
              rw [hpre.out, decide_eq_false HL0.out]; simp
            have hxs := hbW.size
            refine name_world (fun W2 => Hid (Lk W2 w2.heap.size (.slice ca f.classes.length ccap) (.slice (some ⟨b, o, none⟩) f.methods.length mcap) (.slice pa t.params.length pcap) (.slice da t.code.length dcap) (.slice ha t.handlers.length hcap) t false) ∧ Below w2.heap.size w2 W2 ∧ W2.cell? ⟨wr.heap.size, 6, none⟩ = some (.slice da t.code.length dcap)) ?_ ?_
            · refine ⟨?_, (by repeat' (first | with_reducible exact Below.refl _ _ | with_reducible assumption | exact Nat.le_refl _ | with_reducible refine Go.Proofs.Ytncmhenfgbcihab.Rd.below_drewN ?_ _ | with_reducible refine Below.alloc ?_ ?_ _ | with_reducible refine Below.setCell ?_ ?_ _ | with_reducible refine Below.drew ?_ | omega | (simp; omega) | (simp; done))), ?_⟩
              · show Lk _ _ _ _ _ _ _ _ _
                refine ⟨⟨?_, ?_⟩, ⟨?_, ?_, ?_, ?_, ?_, ?_, ?_, ?_⟩, ?_, ?_⟩
                all_goals go_simp
              · obtain ⟨kf, km⟩ : (_ ∧ _) := ⟨k2, k8⟩
                have hz := lt_cell km.1
                have km6 := km.2.2.2.2.2.2.1
                clear kf km
                go_simp
            rintro W2 ⟨hlk0, hbl0, m6'⟩
            have hbl1 : Below wr.heap.size wr W2 := (hbr.trans (hbW.mono hbr.size)).trans (hbl0.mono (by have := hbr.size; omega))
            have hbl2 : Below w.heap.size w W2 := hwr2.out.trans (hbl1.mono hwrs)
            have hblw : w.heap.size ≤ w2.heap.size := by have := hbr.size; omega
            have hl6 := lt_cell m6'
            have hlbs := hlk0.out.lt
            have hlbr : wr.heap.size < w2.heap.size := by have := hbr.size; omega
            clear f1 f2 m0 m1 m2 m3 m4 m5 m6 m7 htW hfW hmW hts0 k2 k8
            go_wp2_with fail
            obtain ⟨wo, rfl⟩ : ∃ wo : World, wo = wr := ⟨_, rfl⟩

            go_loopw [55] (fun i wr => ∃ j : Nat, j ≤ t.code.length ∧ i = .int .i64 j ∧ Hid (Lk wr w2.heap.size (.slice ca f.classes.length ccap) (.slice (some ⟨b, o, none⟩) f.methods.length mcap) (.slice pa t.params.length pcap) (.slice da t.code.length dcap) (.slice ha t.handlers.length hcap) t false) ∧ Keep W2.heap.size w2.heap.size W2 wr) (fun i _ => t.code.length - (intOf i).toNat)
            case atStart => exact ⟨0, by omega, rfl, hlk0, Keep.refl _ _ _⟩
            case round =>
              obtain ⟨j, hj, rfl, hlk, hkp⟩ := hrel
              have hks := hkp.size
              have z10 := hlk.out.2.2.1
              have hlz := hlk.out.lt
              by_cases hlt2 : j < t.code.length
              · obtain ⟨b2, o2, rfl, hb2', he2⟩ := del j hlt2
                obtain ⟨x, hx⟩ := at_of hlt2
                rw [hx.out] at he2
                obtain ⟨g1, g2, g3, g4, g5, oks, va, g6, gargs⟩ := he2
                obtain ⟨aa, acap, rfl, alc, acc, _⟩ := gargs
                have h1 := hkp.cell (by omega) (by omega) (kept hbl2 hb2' g1)
                have h2 := hkp.cell (by omega) (by omega) (kept hbl2 hb2' g2)
                have h3 := hkp.cell (by omega) (by omega) (kept hbl2 hb2' g3)
                have h4 := hkp.cell (by omega) (by omega) (kept hbl2 hb2' g4)
                have h5 := hkp.cell (by omega) (by omega) (kept hbl2 hb2' g5)
                have h6 := hkp.cell (by omega) (by omega) (kept hbl2 hb2' g6)
                have hI2 : (0 : Int) ≤ (j : Int) ∧ (j : Int) < t.code.length := ⟨by omega, by omega⟩
                obtain ⟨hI3, hI4⟩ := hI2
                clear del g1 g2 g3 g4 g5 g6
                go_wp2_with fail
                go_roundw
                case rel => exact ⟨j + 1, by omega, by go_num, Lib.hid (hlk.out.next (Below.alloc (Below.refl _ _) (Nat.le_refl _) _) hlk.out.lt), hkp.trans (Keep.alloc (Keep.refl _ _ _) (by omega) _)⟩
                case measure => simp [intOf]; omega
              · have hge2 : ¬ (j : Int) < t.code.length := by omega
                have hkb : Below w.heap.size w wr := hbl2.trans (hkp.below (by omega) (by omega))
                clear del
                go_wp2_with fail
                go_ret
                exact ⟨ret_bool (by rw [hall0.out]; simp [hno.out (by rw [rme_eq, hpt.out]; rfl)]), hkb⟩
        · have hst0 : (t.stack == 0) = false := by simpa using hs0
          have HS0 := Lib.hid hs0
          clear hs0
          refine wp_region_held_drew (S := fun w' => (w'.cell? ⟨w.heap.size, 0, none⟩ = some (.slice ca f.classes.length ccap) ∧ w'.cell? ⟨w.heap.size, 1, none⟩ = some (.slice (some ⟨b, o, none⟩) f.methods.length mcap)) ∧ w'.cell? ⟨wr.heap.size, 0, none⟩ = some (.slice pa t.params.length pcap) ∧ w'.cell? ⟨wr.heap.size, 1, none⟩ = some (.int .i64 t.ret.kind) ∧ w'.cell? ⟨wr.heap.size, 2, none⟩ = some (.int .i64 t.ret.cls) ∧ w'.cell? ⟨wr.heap.size, 3, none⟩ = some (.int .i64 t.stack) ∧ w'.cell? ⟨wr.heap.size, 4, none⟩ = some (.int .i64 t.locals) ∧ w'.cell? ⟨wr.heap.size, 5, none⟩ = some (.int .i64 t.regs) ∧ w'.cell? ⟨wr.heap.size, 6, none⟩ = some (.slice da t.code.length dcap) ∧ w'.cell? ⟨wr.heap.size, 7, none⟩ = some (.slice ha t.handlers.length hcap)) (by kernel_rfl) (by (try dsimp only); first | exact ⟨⟨f1, f2⟩, m0, m1, m2, m3, m4, m5, m6, m7⟩ | go_keep) (fun hHeld => ?_)
          refine Drawn.tk 0 (some 26) rfl rfl (by assumption) ?_
          try simp only [Act.put, List.setIfInBounds_toArray, List.set_cons_zero, List.set_cons_succ]
          refine Drawn.tk 1 (some 27) rfl rfl (by assumption) ?_
          try simp only [Act.put, List.setIfInBounds_toArray, List.set_cons_zero, List.set_cons_succ]
          refine Drawn.tk 2 (some 28) rfl rfl (by assumption) ?_
          try simp only [Act.put, List.setIfInBounds_toArray, List.set_cons_zero, List.set_cons_succ]
          refine Drawn.tk 3 (some 29) rfl rfl (by assumption) ?_
          try simp only [Act.put, List.setIfInBounds_toArray, List.set_cons_zero, List.set_cons_succ]
          refine wpAnyH_ready (rs := [4]) (by kernel_rfl) (by simp) ?_
          refine AllReadyH.cons rfl (fun K hK => ?_) AllReadyH.nil
          go_simp
          go_at_call 111
          refine (headV f t 2400 _ _ _ _ hph.out (hfW.mono (by repeat' (first | with_reducible exact Below.refl _ _ | with_reducible assumption | exact Nat.le_refl _ | with_reducible refine Go.Proofs.Ytncmhenfgbcihab.Rd.below_drewN ?_ _ | with_reducible refine Below.alloc ?_ ?_ _ | with_reducible refine Below.setCell ?_ ?_ _ | with_reducible refine Below.drew ?_ | omega | (simp; omega) | (simp; done))) (by simp)) (hmW.mono (by repeat' (first | with_reducible exact Below.refl _ _ | with_reducible assumption | exact Nat.le_refl _ | with_reducible refine Go.Proofs.Ytncmhenfgbcihab.Rd.below_drewN ?_ _ | with_reducible refine Below.alloc ?_ ?_ _ | with_reducible refine Below.setCell ?_ ?_ _ | with_reducible refine Below.drew ?_ | omega | (simp; omega) | (simp; done))) (by simp)) (by omega)).mono ?_
          rintro e w2 ⟨rfl, hb2⟩
          have hbW : Below W.heap.size W w2 := Below.trans (by repeat' (first | with_reducible exact Below.refl _ _ | with_reducible assumption | exact Nat.le_refl _ | with_reducible refine Go.Proofs.Ytncmhenfgbcihab.Rd.below_drewN ?_ _ | with_reducible refine Below.alloc ?_ ?_ _ | with_reducible refine Below.setCell ?_ ?_ _ | with_reducible refine Below.drew ?_ | omega | (simp; omega) | (simp; done))) (hb2.mono (by simp))
          have k2 := B2.next ⟨f1, f2⟩ hbW (by omega)
          have k8 := B8.next ⟨m0, m1, m2, m3, m4, m5, m6, m7⟩ hbW (by omega)
          go_wp2_with fail
          refine hK.out _ _ (by (try dsimp only); exact ⟨k2, k8⟩) (fun hHeld => ?_)
          clear hK K
          try simp only [Act.put, List.setIfInBounds_toArray, List.set_cons_zero, List.set_cons_succ]
          refine Drawn.tk 5 (some 31) rfl rfl (by assumption) ?_
          try simp only [Act.put, List.setIfInBounds_toArray, List.set_cons_zero, List.set_cons_succ]

          refine Drawn.tk 6 (some 32) rfl rfl (by assumption) ?_
          try simp only [Act.put, List.setIfInBounds_toArray, List.set_cons_zero, List.set_cons_succ]
          refine Drawn.tk 7 (some 33) rfl rfl (by assumption) ?_
          try simp only [Act.put, List.setIfInBounds_toArray, List.set_cons_zero, List.set_cons_succ]
          refine Drawn.tk 8 (some 34) rfl rfl (by assumption) ?_
          try simp only [Act.put, List.setIfInBounds_toArray, List.set_cons_zero, List.set_cons_succ]
          refine Drawn.tk 9 (some 35) rfl rfl (by assumption) ?_
          try simp only [Act.put, List.setIfInBounds_toArray, List.set_cons_zero, List.set_cons_succ]
          refine Drawn.tk 10 (some 36) rfl rfl (by assumption) ?_
          try simp only [Act.put, List.setIfInBounds_toArray, List.set_cons_zero, List.set_cons_succ]
          refine Drawn.ps 11 (some 37) rfl rfl (by assumption) ?_
          try simp only [Act.put, List.setIfInBounds_toArray, List.set_cons_zero, List.set_cons_succ]
          refine Drawn.ps 12 (some 38) rfl rfl (by assumption) ?_
          try simp only [Act.put, List.setIfInBounds_toArray, List.set_cons_zero, List.set_cons_succ]
          refine Drawn.ps 13 (some 39) rfl rfl (by assumption) ?_
          try simp only [Act.put, List.setIfInBounds_toArray, List.set_cons_zero, List.set_cons_succ]
          refine Drawn.tk 14 (some 40) rfl rfl (by assumption) ?_
          try simp only [Act.put, List.setIfInBounds_toArray, List.set_cons_zero, List.set_cons_succ]
          refine Drawn.tk 15 (some 41) rfl rfl (by assumption) ?_
          try simp only [Act.put, List.setIfInBounds_toArray, List.set_cons_zero, List.set_cons_succ]
          refine Drawn.ps 16 (some 42) rfl rfl (by assumption) ?_
          try simp only [Act.put, List.setIfInBounds_toArray, List.set_cons_zero, List.set_cons_succ]
          refine Drawn.ps 17 (some 43) rfl rfl (by assumption) ?_
          try simp only [Act.put, List.setIfInBounds_toArray, List.set_cons_zero, List.set_cons_succ]
          refine Drawn.ps 18 (some 44) rfl rfl (by assumption) ?_
          try simp only [Act.put, List.setIfInBounds_toArray, List.set_cons_zero, List.set_cons_succ]
          refine Drawn.ps 19 (some 45) rfl rfl (by assumption) ?_
          try simp only [Act.put, List.setIfInBounds_toArray, List.set_cons_zero, List.set_cons_succ]
          refine Drawn.ps 20 (some 46) rfl rfl (by assumption) ?_
          try simp only [Act.put, List.setIfInBounds_toArray, List.set_cons_zero, List.set_cons_succ]
          refine Drawn.ps 21 (some 47) rfl rfl (by assumption) ?_
          try simp only [Act.put, List.setIfInBounds_toArray, List.set_cons_zero, List.set_cons_succ]
          refine Drawn.ps 22 (some 48) rfl rfl (by assumption) ?_
          try simp only [Act.put, List.setIfInBounds_toArray, List.set_cons_zero, List.set_cons_succ]
          refine Drawn.tk 23 (some 49) rfl rfl (by assumption) ?_
          try simp only [Act.put, List.setIfInBounds_toArray, List.set_cons_zero, List.set_cons_succ]
          refine Drawn.tk 24 (some 50) rfl rfl (by assumption) ?_
          try simp only [Act.put, List.setIfInBounds_toArray, List.set_cons_zero, List.set_cons_succ]
          refine wpAnyH_ready (rs := [25]) (by kernel_rfl) (by simp) ?_
          refine AllReadyH.cons rfl (fun K hK => ?_) AllReadyH.nil
          go_simp
          refine hK.out _ _ (by (try dsimp only); obtain ⟨kf, km⟩ : (_ ∧ _) := ⟨k2, k8⟩; have := lt_cell kf.1; have := lt_cell km.1; refine ⟨⟨?_, ?_⟩, ?_, ?_, ?_, ?_, ?_, ?_, ?_, ?_⟩ <;> (obtain ⟨kf0, kf1⟩ := kf; obtain ⟨km0, km1, km2, km3, km4, km5, km6, km7⟩ := km; go_simp)) (fun hHeld => ?_)
          clear hK K
          try simp only [Act.put, List.setIfInBounds_toArray, List.set_cons_zero, List.set_cons_succ]
          refine Drawn.tk 26 (some 5) rfl rfl (by assumption) ?_
          try simp only [Act.put, List.setIfInBounds_toArray, List.set_cons_zero, List.set_cons_succ]
          refine wpAnyH_done (by kernel_rfl) ?_ _
          have hpt : Hid (pre f t = false) := by
            show _ = _
            rw [hpre.out, decide_eq_false HS0.out]; simp
          have hxs := hbW.size
          refine name_world (fun W2 => Hid (Lk W2 w2.heap.size (.slice ca f.classes.length ccap) (.slice (some ⟨b, o, none⟩) f.methods.length mcap) (.slice pa t.params.length pcap) (.slice da t.code.length dcap) (.slice ha t.handlers.length hcap) t false) ∧ Below w2.heap.size w2 W2 ∧ W2.cell? ⟨wr.heap.size, 6, none⟩ = some (.slice da t.code.length dcap)) ?_ ?_
          · refine ⟨?_, (by repeat' (first | with_reducible exact Below.refl _ _ | with_reducible assumption | exact Nat.le_refl _ | with_reducible refine Go.Proofs.Ytncmhenfgbcihab.Rd.below_drewN ?_ _ | with_reducible refine Below.alloc ?_ ?_ _ | with_reducible refine Below.setCell ?_ ?_ _ | with_reducible refine Below.drew ?_ | omega | (simp; omega) | (simp; done))), ?_⟩
            · show Lk _ _ _ _ _ _ _ _ _
              refine ⟨⟨?_, ?_⟩, ⟨?_, ?_, ?_, ?_, ?_, ?_, ?_, ?_⟩, ?_, ?_⟩
              all_goals go_simp
            · obtain ⟨kf, km⟩ : (_ ∧ _) := ⟨k2, k8⟩
              have hz := lt_cell km.1
              have km6 := km.2.2.2.2.2.2.1
              clear kf km
              go_simp
          rintro W2 ⟨hlk0, hbl0, m6'⟩
          have hbl1 : Below wr.heap.size wr W2 := (hbr.trans (hbW.mono hbr.size)).trans (hbl0.mono (by have := hbr.size; omega))
          have hbl2 : Below w.heap.size w W2 := hwr2.out.trans (hbl1.mono hwrs)
          have hblw : w.heap.size ≤ w2.heap.size := by have := hbr.size; omega
          have hl6 := lt_cell m6'
          have hlbs := hlk0.out.lt
          have hlbr : wr.heap.size < w2.heap.size := by have := hbr.size; omega
          clear f1 f2 m0 m1 m2 m3 m4 m5 m6 m7 htW hfW hmW hts0 k2 k8
          go_wp2_with fail
          obtain ⟨wo, rfl⟩ : ∃ wo : World, wo = wr := ⟨_, rfl⟩

          go_loopw [55] (fun i wr => ∃ j : Nat, j ≤ t.code.length ∧ i = .int .i64 j ∧ Hid (Lk wr w2.heap.size (.slice ca f.classes.length ccap) (.slice (some ⟨b, o, none⟩) f.methods.length mcap) (.slice pa t.params.length pcap) (.slice da t.code.length dcap) (.slice ha t.handlers.length hcap) t false) ∧ Keep W2.heap.size w2.heap.size W2 wr) (fun i _ => t.code.length - (intOf i).toNat)
          case atStart => exact ⟨0, by omega, rfl, hlk0, Keep.refl _ _ _⟩
          case round =>
            obtain ⟨j, hj, rfl, hlk, hkp⟩ := hrel
            have hks := hkp.size
            have z10 := hlk.out.2.2.1
            have hlz := hlk.out.lt
            by_cases hlt2 : j < t.code.length
            · obtain ⟨b2, o2, rfl, hb2', he2⟩ := del j hlt2
              obtain ⟨x, hx⟩ := at_of hlt2
              rw [hx.out] at he2
              obtain ⟨g1, g2, g3, g4, g5, oks, va, g6, gargs⟩ := he2
              obtain ⟨aa, acap, rfl, alc, acc, _⟩ := gargs
              have h1 := hkp.cell (by omega) (by omega) (kept hbl2 hb2' g1)
              have h2 := hkp.cell (by omega) (by omega) (kept hbl2 hb2' g2)
              have h3 := hkp.cell (by omega) (by omega) (kept hbl2 hb2' g3)
              have h4 := hkp.cell (by omega) (by omega) (kept hbl2 hb2' g4)
              have h5 := hkp.cell (by omega) (by omega) (kept hbl2 hb2' g5)
              have h6 := hkp.cell (by omega) (by omega) (kept hbl2 hb2' g6)
              have hI2 : (0 : Int) ≤ (j : Int) ∧ (j : Int) < t.code.length := ⟨by omega, by omega⟩
              obtain ⟨hI3, hI4⟩ := hI2
              clear del g1 g2 g3 g4 g5 g6
              go_wp2_with fail
              go_roundw
              case rel => exact ⟨j + 1, by omega, by go_num, Lib.hid (hlk.out.next (Below.alloc (Below.refl _ _) (Nat.le_refl _) _) hlk.out.lt), hkp.trans (Keep.alloc (Keep.refl _ _ _) (by omega) _)⟩
              case measure => simp [intOf]; omega
            · have hge2 : ¬ (j : Int) < t.code.length := by omega
              have hkb : Below w.heap.size w wr := hbl2.trans (hkp.below (by omega) (by omega))
              clear del
              go_wp2_with fail
              go_ret
              exact ⟨ret_bool (by rw [hall0.out]; simp [hno.out (by rw [rme_eq, hpt.out]; rfl)]), hkb⟩
    · have hst := Lib.hid (Form.all_of (p := Rform.rme f) (fun j hj => hall.out j hj (by omega)))
      clear hall mel
      go_wp2
      go_ret
      exact ⟨ret_bool (by rw [hall0.out, hst.out]; rfl), hwr⟩
end Look
end Go.Proofs.Ytncmhenfgbcihab
