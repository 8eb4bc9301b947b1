/- The walk through crosswalkref3.Head. -/
import Derived.Test.YtncmhenfgbcihaaFormR
import Derived.Test.YtncmhenfgbcihaaFormH
import Derived.Test.YtncmhenfgbcihaaDrawn
namespace Go.Proofs.Ytncmhenfgbcihaa
open Go.RowKit
set_option linter.unusedSimpArgs false
set_option linter.unusedVariables false
namespace FormR
open Num Rd D HierW FormW

theorem head_len {nc : Int} {m : Me} {most : Int} (h : 4 < m.params.length ∨ 8 < m.handlers.length ∨ within m.code.length 1 most = false) : Form.head nc m most = false := by
  rw [within_rng] at h
  rw [Bool.eq_false_iff]
  intro h'
  simp only [Form.head, Bool.and_eq_true, decide_eq_true_eq] at h'
  obtain ⟨⟨⟨⟨⟨_, _⟩, h1⟩, _⟩, h2⟩, h3⟩ := h'
  rcases h with h | h | h
  · omega
  · omega
  · rw [h] at h2; cases h2

theorem rtypeV (a : Option Addr) (n cap : Nat) (t : Ty) (p : Bool) (w : World) (hp : Hier.ty n t = p) : Calls Try.prog 42 #[.slice a n cap, .agg #[.int .i64 t.kind, .int .i64 t.cls]] w fun e w' => e = .returned (.bool p) ∧ Below w.heap.size w w' := by
  subst hp; exact rtype a n cap t w

set_option maxRecDepth 100000 in
set_option maxHeartbeats 8000000 in
theorem head (f : Fi) (m : Me) (most : Int) (vf vm : Value) (w : World) (hf : VFi w w.heap.size vf f) (hm : VMe w w.heap.size vm m) (hmost : 0 ≤ most ∧ most ≤ 100000) :
    Calls Try.prog 49 #[vf, vm, .int .i64 most] w fun e w' => e = .returned (.bool (Form.head f.classes.length m most)) ∧ Below w.heap.size w w' := by
  obtain ⟨vc, vme, rfl, ⟨ca, ccap, rfl, clc, ccc, _⟩, ⟨ma, mcap, rfl, mlc, mcc, _⟩⟩ := hf
  obtain ⟨vp, vcd, vh, rfl, ⟨ok1, ok2, _, _, _⟩, ⟨pa, pcap, rfl, plc, pcc, pel⟩, ⟨da, dcap, rfl, dlc, dcc, _⟩, ⟨ha, hcap, rfl, hlc, hcc, hel⟩⟩ := hm
  obtain ⟨most1, most2⟩ := hmost
  unfold Ok at ok1 ok2
  obtain ⟨rk, hrk⟩ : ∃ rk, Hid (m.ret.kind = rk) := ⟨_, rfl⟩
  obtain ⟨rc, hrc⟩ : ∃ rc, Hid (m.ret.cls = rc) := ⟨_, rfl⟩
  rw [hrk.out] at ok1
  rw [hrc.out] at ok2
  rw [hrk.out, hrc.out]
  obtain ⟨rr, hrr⟩ : ∃ rr, Hid (within m.code.length 1 most = rr) := ⟨_, rfl⟩
  have hlen := Lib.hid (head_len (nc := f.classes.length) (m := m) (most := most))
  by_cases d1 : 4 < m.params.length
  · have e1 := Lib.hid (hlen.out (.inl d1))
    have d1' : (4 : Int) < m.params.length := by omega
    go_enter Try.func49, Try.ntmps49
    go_wp2_with fail
    go_ret
    exact ⟨ret_bool e1.out.symm, (by repeat' (first | with_reducible exact Below.refl _ _ | with_reducible assumption | exact Nat.le_refl _ | with_reducible refine Go.Proofs.Ytncmhenfgbcihaa.Rd.below_drewN ?_ _ | with_reducible refine Below.alloc ?_ ?_ _ | with_reducible refine Below.setCell ?_ ?_ _ | with_reducible refine Below.drew ?_ | omega | (simp; omega) | (simp; done)))⟩
  by_cases d2 : 8 < m.handlers.length
  · have e1 := Lib.hid (hlen.out (.inr (.inl d2)))
    have d2' : (8 : Int) < m.handlers.length := by omega
    have d1' : ¬ (4 : Int) < m.params.length := by omega
    go_enter Try.func49, Try.ntmps49
    go_wp2_with fail
    go_ret
    exact ⟨ret_bool e1.out.symm, (by repeat' (first | with_reducible exact Below.refl _ _ | with_reducible assumption | exact Nat.le_refl _ | with_reducible refine Go.Proofs.Ytncmhenfgbcihaa.Rd.below_drewN ?_ _ | with_reducible refine Below.alloc ?_ ?_ _ | with_reducible refine Below.setCell ?_ ?_ _ | with_reducible refine Below.drew ?_ | omega | (simp; omega) | (simp; done)))⟩
  have d1' : ¬ (4 : Int) < m.params.length := by omega
  have d2' : ¬ (8 : Int) < m.handlers.length := by omega
  have D1 := Lib.hid d1
  have D2 := Lib.hid d2
  clear d1 d2
  cases rr
  · have e1 := Lib.hid (hlen.out (.inr (.inr hrr.out)))
    go_enter Try.func49, Try.ntmps49
    go_wp2_with (go_at_call 48; refine (wiV _ _ _ _ _ hrr.out).mono ?_; rintro e w1 ⟨rfl, rfl⟩)
    go_ret
    exact ⟨ret_bool e1.out.symm, (by repeat' (first | with_reducible exact Below.refl _ _ | with_reducible assumption | exact Nat.le_refl _ | with_reducible refine Go.Proofs.Ytncmhenfgbcihaa.Rd.below_drewN ?_ _ | with_reducible refine Below.alloc ?_ ?_ _ | with_reducible refine Below.setCell ?_ ?_ _ | with_reducible refine Below.drew ?_ | omega | (simp; omega) | (simp; done)))⟩
  go_enter Try.func49, Try.ntmps49
  go_wp2_with (go_at_call 48; refine (wiV _ _ _ _ _ hrr.out).mono ?_; rintro e w1 ⟨rfl, rfl⟩)
  refine name_world (fun W => Below w.heap.size w W ∧ w.heap.size + 2 ≤ W.heap.size ∧
    (W.cell? ⟨w.heap.size, 0, none⟩ = some (.slice ca f.classes.length ccap) ∧ W.cell? ⟨w.heap.size, 1, none⟩ = some (.slice ma f.methods.length mcap)) ∧
    W.cell? ⟨w.heap.size + 1, 0, none⟩ = some (.slice pa m.params.length pcap) ∧ W.cell? ⟨w.heap.size + 1, 1, none⟩ = some (.int .i64 rk) ∧ W.cell? ⟨w.heap.size + 1, 2, none⟩ = some (.int .i64 rc) ∧ W.cell? ⟨w.heap.size + 1, 6, none⟩ = some (.slice da m.code.length dcap) ∧ W.cell? ⟨w.heap.size + 1, 7, none⟩ = some (.slice ha m.handlers.length hcap))
    ?_ ?_
  · refine ⟨(by repeat' (first | with_reducible exact Below.refl _ _ | with_reducible assumption | exact Nat.le_refl _ | with_reducible refine Go.Proofs.Ytncmhenfgbcihaa.Rd.below_drewN ?_ _ | with_reducible refine Below.alloc ?_ ?_ _ | with_reducible refine Below.setCell ?_ ?_ _ | with_reducible refine Below.drew ?_ | omega | (simp; omega) | (simp; done))), ?_, ⟨?_, ?_⟩, ?_, ?_, ?_, ?_, ?_⟩
    all_goals go_simp
  rintro W ⟨hbw, hsz, ⟨f1, f2⟩, m0, m1, m2, m6, m7⟩
  have hbs := hbw.size
  have hbW := Lib.hid hbw
  go_loopw [7] (fun i wr => ∃ k : Nat, k ≤ m.params.length ∧ i = .int .i64 k ∧ Below W.heap.size W wr ∧ Hid (∀ j (h : j < m.params.length), j < k → Hier.ty f.classes.length m.params[j] = true)) (fun i _ => m.params.length - (intOf i).toNat)
  case atStart => exact ⟨0, by omega, rfl, Below.refl _ _, fun j _ h => absurd h (by omega)⟩
  case round =>
    obtain ⟨k, hk, rfl, hr, hall⟩ := hrel
    have hrs := hr.size
    have n1 : w.heap.size < wr.heap.size := by omega
    have n2 : w.heap.size + 1 < wr.heap.size := by omega
    have a1 := kept hr (by omega) f1
    have a2 := kept hr (by omega) m0
    have a3 := kept hr (by omega) m1
    have a4 := kept hr (by omega) m2
    have a5 := kept hr (by omega) m6
    have a6 := kept hr (by omega) m7
    by_cases hlt : k < m.params.length
    · obtain ⟨b, o, rfl, hb, he⟩ := pel k hlt
      have hyes := Lib.hid (Form.all_step (p := Hier.ty f.classes.length) hall.out hlt)
      have hno := Lib.hid (Form.head_param (nc := f.classes.length) (most := most) hlt)
      obtain ⟨t, ht⟩ := at_of hlt
      rw [ht.out] at he hyes hno
      obtain ⟨g1, g2, _, _⟩ := he
      have hwr : Below w.heap.size w wr := hbw.trans (hr.mono hbs)
      have k1 := kept hwr hb g1
      have k2 := kept hwr hb g2
      have hltI : (k : Int) < m.params.length := by omega
      clear pel g1 g2 hel f1 f2 m0 m1 m2 m6 m7 a3 a4 a5 a6
      obtain ⟨tb, htb⟩ : ∃ tb, Hid (Hier.ty f.classes.length t = tb) := ⟨_, rfl⟩
      go_wp2_with fail
      refine wp_region_held_drew (S := fun w' => w'.cell? ⟨w.heap.size, 0, none⟩ = some (.slice ca f.classes.length ccap) ∧ w'.cell? ⟨w.heap.size + 1, 0, none⟩ = some (.slice (some ⟨b, o, none⟩) m.params.length pcap) ∧ w'.cell? ⟨b, o + k * 2, none⟩ = some (.int .i64 t.kind) ∧ w'.cell? ⟨b, o + k * 2 + 1, none⟩ = some (.int .i64 t.cls)) (by kernel_rfl) (by (try dsimp only); first | exact ⟨a1, a2, k1, k2⟩ | go_keep) (fun hHeld => ?_)
      refine Drawn.tk 0 (some 35) rfl rfl (by assumption) ?_
      try simp only [Act.put, List.setIfInBounds_toArray, List.set_cons_zero, List.set_cons_succ]
      refine Drawn.tk 1 (some 36) rfl rfl (by assumption) ?_
      try simp only [Act.put, List.setIfInBounds_toArray, List.set_cons_zero, List.set_cons_succ]
      refine Drawn.tk 2 (some 37) rfl rfl (by assumption) ?_
      try simp only [Act.put, List.setIfInBounds_toArray, List.set_cons_zero, List.set_cons_succ]
      refine Drawn.tk 3 (some 38) rfl rfl (by assumption) ?_
      try simp only [Act.put, List.setIfInBounds_toArray, List.set_cons_zero, List.set_cons_succ]
      refine Drawn.tk 4 (some 39) rfl rfl (by assumption) ?_
      try simp only [Act.put, List.setIfInBounds_toArray, List.set_cons_zero, List.set_cons_succ]
      refine Drawn.tk 5 (some 40) rfl rfl (by assumption) ?_
      try simp only [Act.put, List.setIfInBounds_toArray, List.set_cons_zero, List.set_cons_succ]
      refine Drawn.tk 6 (some 41) rfl rfl (by assumption) ?_
      try simp only [Act.put, List.setIfInBounds_toArray, List.set_cons_zero, List.set_cons_succ]
      refine wpAnyH_ready (rs := [7]) (by kernel_rfl) (by simp) ?_
      refine AllReadyH.cons rfl (fun K hK => ?_) AllReadyH.nil
      go_simp
      go_at_call 42
      refine (rtypeV _ _ _ t tb _ htb.out).mono ?_
      rintro e w2 ⟨rfl, hb2⟩
      have hb3 : Below wr.heap.size wr w2 := Below.trans (by repeat' (first | with_reducible exact Below.refl _ _ | with_reducible assumption | exact Nat.le_refl _ | with_reducible refine Go.Proofs.Ytncmhenfgbcihaa.Rd.below_drewN ?_ _ | with_reducible refine Below.alloc ?_ ?_ _ | with_reducible refine Below.setCell ?_ ?_ _ | with_reducible refine Below.drew ?_ | omega | (simp; omega) | (simp; done))) (hb2.mono (by simp))
      have b1 := kept hb3 (by omega) a1
      have b2 := kept hb3 (by omega) a2
      have b3 := kept hb3 (by omega) k1
      have b4 := kept hb3 (by omega) k2
      go_wp2_with fail
      refine hK.out _ _ (by (try dsimp only); exact ⟨b1, b2, b3, b4⟩) (fun hHeld => ?_)
      clear hK K
      try simp only [Act.put, List.setIfInBounds_toArray, List.set_cons_zero, List.set_cons_succ]
      refine Drawn.tk 8 (some 43) rfl rfl (by assumption) ?_
      try simp only [Act.put, List.setIfInBounds_toArray, List.set_cons_zero, List.set_cons_succ]
      refine wpAnyH_done (by kernel_rfl) ?_ _
      cases tb
      · go_wp2_with fail
        go_ret
        exact ⟨ret_bool (hno.out htb.out).symm, hwr.trans (hb3.mono (by omega))⟩
      · go_wp2_with fail
        go_roundw
        case rel => exact ⟨k + 1, by omega, by go_num, hr.trans (hb3.mono (by omega)), hyes.out htb.out⟩
        case measure => simp [intOf]; omega
    · obtain ⟨wo, rfl⟩ : ∃ wo : World, wo = wr := ⟨_, rfl⟩
      have hpar := Lib.hid (Form.all_of (fun j hj => hall.out j hj (by omega)))
      have hwo : Below w.heap.size w wo := hbw.trans (hr.mono hbs)
      clear pel hall f1 f2 m0 m1 m2 m6 m7
      have hge : ¬ (k : Int) < m.params.length := by omega
      go_wp2_with fail
      have hcode : 1 ≤ m.code.length ∧ (m.code.length : Int) ≤ 100000 := by
        have h := hrr.out
        simp only [within, decide_eq_true_eq] at h
        omega
      obtain ⟨hc1, hc2⟩ := hcode
      go_loopw [8] (fun i wr => ∃ k : Nat, k ≤ m.handlers.length ∧ i = .int .i64 k ∧ Below wo.heap.size wo wr ∧ Hid (∀ j (h : j < m.handlers.length), j < k → Form.hd f.classes.length m.code.length m.handlers[j] = true)) (fun i _ => m.handlers.length - (intOf i).toNat)
      case atStart => exact ⟨0, by omega, rfl, Below.refl _ _, fun j _ h => absurd h (by omega)⟩
      case round =>
        obtain ⟨k, hk, rfl, hq, hall⟩ := hrel
        have hqs := hq.size
        have n3 : w.heap.size < wr.heap.size := by omega
        have n4 : w.heap.size + 1 < wr.heap.size := by omega
        have c1 := kept hq (by omega) a1
        have c2 := kept hq (by omega) a2
        have c3 := kept hq (by omega) a3
        have c4 := kept hq (by omega) a4
        have c5 := kept hq (by omega) a5
        have c6 := kept hq (by omega) a6
        clear a1 a2 a3 a4 a5 a6
        have hwr : Below w.heap.size w wr := hwo.trans (hq.mono (by omega))
        by_cases hlt : k < m.handlers.length
        · obtain ⟨b, o, rfl, hb, he⟩ := hel k hlt
          have hyes := Lib.hid (Form.all_step (p := Form.hd f.classes.length m.code.length) hall.out hlt)
          have hno := Lib.hid (Form.head_hd (nc := f.classes.length) (most := most) hlt)
          obtain ⟨t, ht⟩ := at_of hlt
          rw [ht.out] at he hyes hno
          obtain ⟨g1, g2, g3, g4, _⟩ := he
          have k1 := kept hwr hb g1
          have k2 := kept hwr hb g2
          have k3 := kept hwr hb g3
          have k4 := kept hwr hb g4
          obtain ⟨lo, hi, go, cl⟩ := t
          simp only at k1 k2 k3 k4
          clear hel g1 g2 g3 g4 c2 c3 c4
          have hq2 := Lib.hid hq
          have hwr2 := Lib.hid hwr
          go_wp2_with (go_at_call 48; refine (wi _ _ _ _).mono ?_; rintro e w1 ⟨rfl, rfl⟩)
          all_goals first
            | (go_ret
               refine ⟨ret_bool (hno.out ?_).symm, (by repeat' (first | with_reducible exact Below.refl _ _ | with_reducible assumption | exact Nat.le_refl _ | with_reducible refine Go.Proofs.Ytncmhenfgbcihaa.Rd.below_drewN ?_ _ | with_reducible refine Below.alloc ?_ ?_ _ | with_reducible refine Below.setCell ?_ ?_ _ | with_reducible refine Below.drew ?_ | omega | (simp; omega) | (simp; done)))⟩
               go_tidy
               rw [Bool.eq_false_iff]
               simp only [Form.hd, Bool.and_eq_true, decide_eq_true_eq, ne_eq]
               rintro ⟨⟨z1, z2⟩, z3⟩
               first | omega | (simp_all [within_rng]; done) | (simp only [within_rng, z2, z3, Bool.not_true, Bool.false_eq_true, or_false, Int.sub_add_cancel] at *; omega))
            | skip
          go_roundw
          case rel =>
            refine ⟨k + 1, by omega, by go_num, hq2.out.alloc (by omega) _, hyes.out ?_⟩
            go_tidy
            simp only [Form.hd, Bool.and_eq_true, decide_eq_true_eq]
            refine ⟨⟨⟨by omega, by omega, by omega⟩, ?_⟩, ?_⟩
            · simp_all [within_rng]
            · simp_all [within_rng]
          case measure => simp [intOf]; omega
        · have hge : m.handlers.length ≤ k := by omega
          have hh : m.handlers.all (Form.hd f.classes.length m.code.length) = true := Form.all_of (fun j hj => hall.out j hj (by omega))
          have hhd := Lib.hid (Form.head_rest (nc := f.classes.length) (most := most) hpar.out hh)
          clear hh
          clear hel hall
          obtain ⟨tr, htr⟩ : ∃ tr, Hid (Hier.ty f.classes.length ⟨rk, rc⟩ = tr) := ⟨_, rfl⟩
          have hnr : Hid (Form.head f.classes.length m most = (decide (rk = 0 ∧ rc = 0) || tr)) := by
            show _ = _
            have h1 := hrr.out
            rw [within_rng] at h1
            have h2 := D1.out
            have h3 := D2.out
            rw [hhd.out, decide_eq_true (by omega), decide_eq_true (by omega), h1, ← htr.out, ← hrk.out, ← hrc.out]
            simp [Form.ret]
          by_cases hz : rk = 0
          · subst hz
            by_cases hz2 : rc = 0
            · subst hz2
              go_wp2_with fail
              go_ret
              exact ⟨ret_bool (by rw [hnr.out]; simp), hwr⟩
            · go_wp2_with (go_at_call 42; refine (rtypeV _ _ _ ⟨0, rc⟩ tr _ htr.out).mono ?_; rintro e w1 ⟨rfl, hb1⟩)
              go_ret
              exact ⟨ret_bool (by rw [hnr.out]; simp [hz2]), hwr.trans (hb1.mono (by omega))⟩
          · go_wp2_with (go_at_call 42; refine (rtypeV _ _ _ ⟨rk, rc⟩ tr _ htr.out).mono ?_; rintro e w1 ⟨rfl, hb1⟩)
            go_ret
            exact ⟨ret_bool (by rw [hnr.out]; simp [hz]), hwr.trans (hb1.mono (by omega))⟩
end FormR
end Go.Proofs.Ytncmhenfgbcihaa
