/- The walk through sform.Head. -/
import Derived.Test.YtncmhenfgbcihabFormW
namespace Go.Proofs.Ytncmhenfgbcihab
open Go.RowKit
set_option linter.unusedSimpArgs false
set_option linter.unusedVariables false
namespace FormW
open Num Rd D HierW

set_option maxRecDepth 100000 in
set_option maxHeartbeats 8000000 in
theorem head (f : Fi) (m : Me) (most : Int) (vf vm : Value) (w : World) (hf : VFi w w.heap.size vf f) (hm : VMe w w.heap.size vm m) (hmost : 0 ≤ most ∧ most ≤ 100000) :
    Calls Try.prog 111 #[vf, vm, .int .i64 most] w fun e w' => e = .returned (.bool (Form.head f.classes.length m most)) ∧ Below w.heap.size w w' := by
  obtain ⟨vc, vme, rfl, ⟨ca, ccap, rfl, clc, ccc, _⟩, ⟨ma, mcap, rfl, mlc, mcc, _⟩⟩ := hf
  obtain ⟨vp, vcd, vh, rfl, ⟨ok1, ok2, _, _, _⟩, ⟨pa, pcap, rfl, plc, pcc, pel⟩, ⟨da, dcap, rfl, dlc, dcc, _⟩, ⟨ha, hcap, rfl, hlc, hcc, hel⟩⟩ := hm
  obtain ⟨most1, most2⟩ := hmost
  unfold Ok at ok1 ok2
  obtain ⟨rk, hrk⟩ : ∃ rk, Hid (m.ret.kind = rk) := ⟨_, rfl⟩
  obtain ⟨rc, hrc⟩ : ∃ rc, Hid (m.ret.cls = rc) := ⟨_, rfl⟩
  rw [hrk.out] at ok1
  rw [hrc.out] at ok2
  rw [hrk.out, hrc.out]
  go_enter Try.func111, Try.ntmps111
  go_wp2_with fail
  refine name_world (fun W => Below w.heap.size w W ∧ w.heap.size + 2 ≤ W.heap.size ∧
    (W.cell? ⟨w.heap.size, 0, none⟩ = some (.slice ca f.classes.length ccap) ∧ W.cell? ⟨w.heap.size, 1, none⟩ = some (.slice ma f.methods.length mcap)) ∧
    W.cell? ⟨w.heap.size + 1, 0, none⟩ = some (.slice pa m.params.length pcap) ∧ W.cell? ⟨w.heap.size + 1, 1, none⟩ = some (.int .i64 rk) ∧ W.cell? ⟨w.heap.size + 1, 2, none⟩ = some (.int .i64 rc) ∧ W.cell? ⟨w.heap.size + 1, 6, none⟩ = some (.slice da m.code.length dcap) ∧ W.cell? ⟨w.heap.size + 1, 7, none⟩ = some (.slice ha m.handlers.length hcap))
    ?_ ?_
  · refine ⟨(by repeat' (first | with_reducible exact Below.refl _ _ | with_reducible assumption | exact Nat.le_refl _ | with_reducible refine Go.Proofs.Ytncmhenfgbcihab.Rd.below_drewN ?_ _ | with_reducible refine Below.alloc ?_ ?_ _ | with_reducible refine Below.setCell ?_ ?_ _ | with_reducible refine Below.drew ?_ | omega | (simp; omega) | (simp; done))), ?_, ⟨?_, ?_⟩, ?_, ?_, ?_, ?_, ?_⟩
    all_goals go_simp
  rintro W ⟨hbw, hsz, ⟨f1, f2⟩, m0, m1, m2, m6, m7⟩
  have hbs := hbw.size
  have hbW := Lib.hid hbw
  go_loopw [14] (fun i wr => ∃ k : Nat, k ≤ m.params.length ∧ i = .int .i64 k ∧ Below W.heap.size W wr ∧ Hid (∀ j (h : j < m.params.length), j < k → Hier.ty f.classes.length m.params[j] = true)) (fun i _ => m.params.length - (intOf i).toNat)
  case atStart => exact ⟨0, by omega, rfl, Below.refl _ _, fun j _ h => absurd h (by omega)⟩
  case round =>
    obtain ⟨k, hk, rfl, hr, hall⟩ := hrel
    have hrs := hr.size
    have n1 : w.heap.size < wr.heap.size := by omega
    have n2 : w.heap.size + 1 < wr.heap.size := by omega
    have a1 := kept hr (by omega) f1
    have a2 := kept hr (by omega) m0
    have a3 := kept hr (by omega) m1
    have a4 := kept hr (by omega) m2
    have a5 := kept hr (by omega) m6
    have a6 := kept hr (by omega) m7
    by_cases hlt : k < m.params.length
    · obtain ⟨b, o, rfl, hb, he⟩ := pel k hlt
      have hyes := Lib.hid (Form.all_step (p := Hier.ty f.classes.length) hall.out hlt)
      have hno := Lib.hid (Form.head_param (nc := f.classes.length) (most := most) hlt)
      obtain ⟨t, ht⟩ := at_of hlt
      rw [ht.out] at he hyes hno
      obtain ⟨g1, g2, _, _⟩ := he
      have hwr : Below w.heap.size w wr := hbw.trans (hr.mono hbs)
      have k1 := kept hwr hb g1
      have k2 := kept hwr hb g2
      clear pel g1 g2 hel f1 f2 m0 m1 m2 m6 m7 a2 a3 a4 a5 a6
      obtain ⟨tb, htb⟩ : ∃ tb, Hid (Hier.ty f.classes.length t = tb) := ⟨_, rfl⟩
      cases tb
      · go_wp2_with (go_at_call 141; refine (type _ _ _ t _).mono ?_; rw [htb.out]; rintro e w1 ⟨rfl, hb1⟩)
        go_ret
        exact ⟨ret_bool (hno.out htb.out).symm, (hwr.alloc (by omega) _).trans (hb1.mono (by simp; omega))⟩
      · go_wp2_with (go_at_call 141; refine (type _ _ _ t _).mono ?_; rw [htb.out]; rintro e w1 ⟨rfl, hb1⟩)
        go_roundw
        case rel => exact ⟨k + 1, by omega, by go_num, (hr.alloc (by omega) _).trans (hb1.mono (by simp; omega)), hyes.out htb.out⟩
        case measure => simp [intOf]; omega
    · obtain ⟨wo, rfl⟩ : ∃ wo : World, wo = wr := ⟨_, rfl⟩
      have hpar := Lib.hid (Form.all_of (fun j hj => hall.out j hj (by omega)))
      have hwo : Below w.heap.size w wo := hbw.trans (hr.mono hbs)
      clear pel hall f1 f2 m0 m1 m2 m6 m7
      go_wp2
      go_loopw [27] (fun i wr => ∃ k : Nat, k ≤ m.handlers.length ∧ i = .int .i64 k ∧ Below wo.heap.size wo wr ∧ Hid (∀ j (h : j < m.handlers.length), j < k → Form.hd f.classes.length m.code.length m.handlers[j] = true)) (fun i _ => m.handlers.length - (intOf i).toNat)
      case atStart => exact ⟨0, by omega, rfl, Below.refl _ _, fun j _ h => absurd h (by omega)⟩
      case round =>
        obtain ⟨k, hk, rfl, hq, hall⟩ := hrel
        have hqs := hq.size
        have n3 : w.heap.size < wr.heap.size := by omega
        have n4 : w.heap.size + 1 < wr.heap.size := by omega
        have c1 := kept hq (by omega) a1
        have c2 := kept hq (by omega) a2
        have c3 := kept hq (by omega) a3
        have c4 := kept hq (by omega) a4
        have c5 := kept hq (by omega) a5
        have c6 := kept hq (by omega) a6
        clear a1 a2 a3 a4 a5 a6
        have hwr : Below w.heap.size w wr := hwo.trans (hq.mono (by omega))
        by_cases hlt : k < m.handlers.length
        · obtain ⟨b, o, rfl, hb, he⟩ := hel k hlt
          have hyes := Lib.hid (Form.all_step (p := Form.hd f.classes.length m.code.length) hall.out hlt)
          have hno := Lib.hid (Form.head_hd (nc := f.classes.length) (most := most) hlt)
          obtain ⟨t, ht⟩ := at_of hlt
          rw [ht.out] at he hyes hno
          obtain ⟨g1, g2, g3, g4, _⟩ := he
          have k1 := kept hwr hb g1
          have k2 := kept hwr hb g2
          have k3 := kept hwr hb g3
          have k4 := kept hwr hb g4
          obtain ⟨lo, hi, go, cl⟩ := t
          simp only at k1 k2 k3 k4
          clear hel g1 g2 g3 g4 c2 c3 c4 c6
          have hq2 := Lib.hid hq
          have hwr2 := Lib.hid hwr
          go_wp2_with (go_at_call 89; refine (sin _ _ _ _).mono ?_; rintro e w1 ⟨rfl, rfl⟩)
          all_goals first
            | (go_ret
               refine ⟨ret_bool (hno.out ?_).symm, (by repeat' (first | with_reducible exact Below.refl _ _ | with_reducible assumption | exact Nat.le_refl _ | with_reducible refine Go.Proofs.Ytncmhenfgbcihab.Rd.below_drewN ?_ _ | with_reducible refine Below.alloc ?_ ?_ _ | with_reducible refine Below.setCell ?_ ?_ _ | with_reducible refine Below.drew ?_ | omega | (simp; omega) | (simp; done)))⟩
               go_tidy
               rw [Bool.eq_false_iff]
               simp only [Form.hd, Bool.and_eq_true, decide_eq_true_eq, ne_eq]
               rintro ⟨⟨z1, z2⟩, z3⟩
               first | omega | (simp_all; done) | (simp only [z2, z3, Bool.not_true, Bool.false_eq_true, or_false] at *; omega))
            | skip
          go_roundw
          case rel =>
            refine ⟨k + 1, by omega, by go_num, hq2.out.alloc (by omega) _, hyes.out ?_⟩
            go_tidy
            simp only [Form.hd, Bool.and_eq_true, decide_eq_true_eq]
            refine ⟨⟨⟨by omega, by omega, by omega⟩, ?_⟩, ?_⟩
            · assumption
            · simp_all
          case measure => simp [intOf]; omega
        · have hge : m.handlers.length ≤ k := by omega
          have hh : m.handlers.all (Form.hd f.classes.length m.code.length) = true := Form.all_of (fun j hj => hall.out j hj (by omega))
          have hhd := Lib.hid (Form.head_rest (nc := f.classes.length) (most := most) hpar.out hh)
          clear hh
          clear hel hall
          obtain ⟨tr, htr⟩ : ∃ tr, Hid (Hier.ty f.classes.length ⟨rk, rc⟩ = tr) := ⟨_, rfl⟩
          obtain ⟨rr, hrr⟩ : ∃ rr, Hid (Form.rng m.code.length 1 (most + 1) = rr) := ⟨_, rfl⟩
          by_cases d1 : m.params.length ≤ 4
          · have d1' : (m.params.length : Int) ≤ 4 := by omega
            have hq := fun w => run_eql_ty rk rc 0 0 w
            have hg := fun op x y xs ys w => run_guard_ty op x y xs ys w
            have hnr : Hid (Form.ret f.classes.length m.ret = (decide (rk = 0 ∧ rc = 0) || tr)) := by
              show _ = _
              rw [← htr.out, ← hrk.out, ← hrc.out]; rfl
            have hrr' : Hid (Form.head f.classes.length m most = (true && (decide (rk = 0 ∧ rc = 0) || tr) && rr && decide (m.handlers.length ≤ 8))) := by
              show _ = _
              rw [hhd.out, decide_eq_true d1, hnr.out, hrr.out]
            clear hhd hnr
            cases tr <;> cases rr
            all_goals
              go_wp2_with (first
                | (go_at_call 141; refine (type _ _ _ ⟨rk, rc⟩ _).mono ?_; rw [htr.out]; rintro e w1 ⟨rfl, hb1⟩; have y5 := kept hb1 (by omega) c5; have y6 := kept hb1 (by omega) c6)
                | (go_at_call 89; refine (sinV _ _ _ _ _ hrr.out).mono ?_; rintro e w2 ⟨rfl, rfl⟩))
              all_goals go_ret
              all_goals refine ⟨ret_bool ?_, ?_⟩
              all_goals first
                | exact hwr
                | exact hwr.trans (hb1.mono (by omega))
                | skip
              all_goals go_tidy
              all_goals rw [hrr'.out]
              all_goals simp_all
              all_goals first | rfl | (intros; omega)
          · have d1' : ¬ (m.params.length : Int) ≤ 4 := by omega
            have e1 : Hid (Form.head f.classes.length m most = false) := by
              show _ = _
              rw [hhd.out, decide_eq_false d1]; rfl
            go_wp2_with fail
            go_ret
            refine ⟨ret_bool ?_, hwr⟩
            go_tidy
            rw [e1.out]
end FormW
end Go.Proofs.Ytncmhenfgbcihab
