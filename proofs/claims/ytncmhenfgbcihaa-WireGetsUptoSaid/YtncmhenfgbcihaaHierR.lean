/- The walks through the reference of classes. -/
import Derived.Test.YtncmhenfgbcihaaHierW
namespace Go.Proofs.Ytncmhenfgbcihaa
open Go.RowKit
set_option linter.unusedSimpArgs false
set_option linter.unusedVariables false
namespace HierW
open Num Rd D

theorem cls_sup0 {n : Int} {c : Cls} (h : c.sup ≠ -1) : Hier.cls n 0 c = false := cls_false (.inl (by simp [Hier.supOk, h]))

set_option maxRecDepth 100000 in
set_option maxHeartbeats 4000000 in
theorem rmay (v : Value) (l : List Cls) (w : World) (h : Cs w v l) : Calls Try.prog 19 #[v] w fun e w' => e = .returned (.bool (Hier.may l)) ∧ Below w.heap.size w w' := by
  obtain ⟨a, cap, rfl, hlc, hcc, hel⟩ := h
  by_cases q1 : l.length < 4
  · have e1 := Lib.hid (Hier.may_false_len (l := l) (by omega))
    go_enter Try.func19, Try.ntmps19
    go_wp2
    all_goals go_ret
    all_goals exact ⟨ret_bool e1.out.symm, (by repeat' (first | with_reducible exact Below.refl _ _ | with_reducible assumption | exact Nat.le_refl _ | with_reducible refine Go.Proofs.Ytncmhenfgbcihaa.Rd.below_drewN ?_ _ | with_reducible refine Below.alloc ?_ ?_ _ | with_reducible refine Below.setCell ?_ ?_ _ | with_reducible refine Below.drew ?_ | omega | (simp; omega) | (simp; done)))⟩
  by_cases q2 : 12 < l.length
  · have e1 := Lib.hid (Hier.may_false_len (l := l) (by omega))
    go_enter Try.func19, Try.ntmps19
    go_wp2
    all_goals go_ret
    all_goals exact ⟨ret_bool e1.out.symm, (by repeat' (first | with_reducible exact Below.refl _ _ | with_reducible assumption | exact Nat.le_refl _ | with_reducible refine Go.Proofs.Ytncmhenfgbcihaa.Rd.below_drewN ?_ _ | with_reducible refine Below.alloc ?_ ?_ _ | with_reducible refine Below.setCell ?_ ?_ _ | with_reducible refine Below.drew ?_ | omega | (simp; omega) | (simp; done)))⟩
  obtain ⟨b, o, rfl, hb, he⟩ := hel 0 (by omega)
  obtain ⟨c0, hc0⟩ := at_of (l := l) (k := 0) (by omega)
  have hno0 := Lib.hid (Hier.may_false_at (l := l) (i := 0) (show 0 < l.length by omega))
  rw [hc0.out] at he hno0
  have z1 := he.1
  rw [Nat.zero_mul, Nat.add_zero] at z1
  clear he
  by_cases q3 : c0.sup = -1
  case neg =>
    have q3' : (c0.sup != -1) = true := by simpa using q3
    have e1 := Lib.hid (hno0.out (cls_sup0 q3))
    go_enter Try.func19, Try.ntmps19
    go_wp2
    all_goals go_ret
    all_goals exact ⟨ret_bool e1.out.symm, (by repeat' (first | with_reducible exact Below.refl _ _ | with_reducible assumption | exact Nat.le_refl _ | with_reducible refine Go.Proofs.Ytncmhenfgbcihaa.Rd.below_drewN ?_ _ | with_reducible refine Below.alloc ?_ ?_ _ | with_reducible refine Below.setCell ?_ ?_ _ | with_reducible refine Below.drew ?_ | omega | (simp; omega) | (simp; done)))⟩
  have Q3 := Lib.hid q3
  rw [q3] at z1
  clear q3
  go_enter Try.func19, Try.ntmps19
  go_wp2
  go_loopw [4] (fun i wr => ∃ k : Nat, k ≤ l.length ∧ i = .int .i64 k ∧ Below w.heap.size w wr ∧ Hid (∀ j (h : j < l.length), j < k → Hier.cls l.length j l[j] = true)) (fun i _ => l.length - (intOf i).toNat)
  case atStart => exact ⟨0, by omega, rfl, (by repeat' (first | with_reducible exact Below.refl _ _ | with_reducible assumption | exact Nat.le_refl _ | with_reducible refine Go.Proofs.Ytncmhenfgbcihaa.Rd.below_drewN ?_ _ | with_reducible refine Below.alloc ?_ ?_ _ | with_reducible refine Below.setCell ?_ ?_ _ | with_reducible refine Below.drew ?_ | omega | (simp; omega) | (simp; done))), fun j _ h => absurd h (by omega)⟩
  case round =>
    obtain ⟨k, hk, rfl, hbw, hall⟩ := hrel
    by_cases hlt : k < l.length
    · obtain ⟨b', o', hbo, hb, he⟩ := hel k hlt
      simp only [Option.some.injEq, Addr.mk.injEq, and_true] at hbo
      obtain ⟨rfl, rfl⟩ := hbo
      have hno := Lib.hid (fun hc => Hier.may_false_at (l := l) hlt hc)
      have hyes := Lib.hid (all_next hall.out hlt)
      have hk0 : Hid (k = 0 → (l[k]).sup = -1) := fun h0 => by
        have : l[k] = c0 := by rw [← hc0.out]; congr
        rw [this]; exact Q3.out
      obtain ⟨c, hc⟩ := at_of hlt
      rw [hc.out] at he hno hyes hk0
      obtain ⟨c, fl⟩ := c
      obtain ⟨g1, g2, fv, g3, fa, fcap, rfl, flc, fcc, fel⟩ := he
      simp only at g1 g2 g3 flc fel
      have k1 := kept hbw hb g1
      have k2 := kept hbw hb g3
      have hbs := hbw.size
      clear hel
      go_wp2
      all_goals first
        | (go_ret
           refine ⟨ret_bool (hno.out (cls_false ?_)).symm, (by repeat' (first | with_reducible exact Below.refl _ _ | with_reducible assumption | exact Nat.le_refl _ | with_reducible refine Go.Proofs.Ytncmhenfgbcihaa.Rd.below_drewN ?_ _ | with_reducible refine Below.alloc ?_ ?_ _ | with_reducible refine Below.setCell ?_ ?_ _ | with_reducible refine Below.drew ?_ | omega | (simp; omega) | (simp; done)))⟩
           simp only [Hier.supOk]
           (repeat' split) <;> simp <;> omega)
        | skip
      all_goals
        have hfl : fl.length ≤ 6 := by omega
        have hsup : Hid (Hier.supOk k c = true) := by
          show Hier.supOk k c = true
          have := hk0.out
          unfold Hier.supOk
          split <;> rw [decide_eq_true_eq] <;> first | omega | exact this ‹_›
        go_loopw [5] (fun i wr2 => ∃ m : Nat, m ≤ fl.length ∧ i = .int .i64 m ∧ Below w.heap.size w wr2 ∧ Hid (∀ j (h : j < fl.length), j < m → Hier.ty l.length fl[j] = true)) (fun i _ => fl.length - (intOf i).toNat)
        case atStart => exact ⟨0, by omega, rfl, (by repeat' (first | with_reducible exact Below.refl _ _ | with_reducible assumption | exact Nat.le_refl _ | with_reducible refine Go.Proofs.Ytncmhenfgbcihaa.Rd.below_drewN ?_ _ | with_reducible refine Below.alloc ?_ ?_ _ | with_reducible refine Below.setCell ?_ ?_ _ | with_reducible refine Below.drew ?_ | omega | (simp; omega) | (simp; done))), fun j _ h => absurd h (by omega)⟩
        case round =>
          obtain ⟨m, hm, rfl, hbw2, hall2⟩ := hrel
          have hbs2 := hbw2.size
          have r1 := kept hbw2 hb g1
          have r2 := kept hbw2 hb g3
          by_cases hlt2 : m < fl.length
          · obtain ⟨fb, fo, rfl, hfb, fe⟩ := fel m hlt2
            obtain ⟨f1, f2, _, _⟩ := fe
            have hyes2 := Lib.hid (tys_next hall2.out hlt2)
            have hno2 := Lib.hid (fun hf => hno.out (cls_false_at (c := ⟨c, fl⟩) hlt2 hf))
            obtain ⟨t, ht⟩ := at_of hlt2
            rw [ht.out] at f1 f2 hyes2 hno2
            have p1 := kept hbw2 hfb f1
            have p2 := kept hbw2 hfb f2
            clear fel f1 f2 g1 g3 k1 k2
            obtain ⟨tb, htb⟩ : ∃ tb, Hid (Hier.ty l.length t = tb) := ⟨_, rfl⟩
            cases tb
            · go_wp2_with (go_at_call 42; refine (rtype _ _ _ t _).mono ?_; rw [htb.out]; rintro e w1 ⟨rfl, hb1⟩)
              go_ret
              exact ⟨ret_bool (hno2.out htb.out).symm, hbw2.trans (hb1.mono (by omega))⟩
            · go_wp2_with (go_at_call 42; refine (rtype _ _ _ t _).mono ?_; rw [htb.out]; rintro e w1 ⟨rfl, hb1⟩)
              go_roundw
              case rel => exact ⟨m + 1, by omega, by go_num, hbw2.trans (hb1.mono (by omega)), hyes2.out htb.out⟩
              case measure => simp [intOf]; omega
          · obtain rfl : m = fl.length := by omega
            have hnext := Lib.hid (hyes.out (cls_true (c := ⟨c, fl⟩) hsup.out hfl (fun j hj => hall2.out j hj hj)))
            clear g1 g3 k1 k2 fel
            go_wp2
            go_roundw
            case rel => exact ⟨k + 1, by omega, by go_num, hbw2, hnext.out⟩
            case measure => simp [intOf]; omega
    · have e1 : Hid (Hier.may l = true) := (Hier.may_iff l).2 ⟨by omega, fun j h => hall.out j h (by omega)⟩
      go_wp2
      all_goals go_ret
      all_goals exact ⟨ret_bool e1.out.symm, hbw⟩

/-! ### below -/
theorem refN_step {l : List Cls} (hw : Hier.Wf l) (c d : Int) (hd : 0 ≤ d) (h : d < c) (hc : c < l.length) : Hier.is l c d = Hier.is l (Hier.sup l c) d := by
  rw [Hier.is_in hw ⟨by omega, hc⟩, show decide (d = c) = false from decide_eq_false (by omega), Bool.false_or]
theorem refN_stop {l : List Cls} (hw : Hier.Wf l) (c d : Int) (hd : 0 ≤ d) (h : c ≤ d) (hc : c < l.length) : Hier.is l c d = (c == d) := by
  by_cases h0 : 0 ≤ c
  · rw [Hier.is_in hw ⟨h0, hc⟩]
    by_cases e : d = c
    · subst e; simp
    · rw [show decide (d = c) = false from decide_eq_false e, Bool.false_or, show (c == d) = false by simp; omega]
      cases hi : Hier.is l (Hier.sup l c) d with
      | false => rfl
      | true =>
        have := Hier.is_le' hw hi
        have := hw c.toNat (by omega)
        unfold Hier.sup at *; omega
  · rw [Hier.is_out (by omega), show (c == d) = false by simp; omega]

set_option maxRecDepth 100000 in
set_option maxHeartbeats 2000000 in
theorem rbelow (v : Value) (l : List Cls) (c d : Int) (w : World) (h : Cs w v l) (hw : Hier.Wf l) : Calls Try.prog 20 #[v, .int .i64 c, .int .i64 d] w fun e w' => e = .returned (.bool (Hier.is l c d)) ∧ w = w' := by
  obtain ⟨a, cap, rfl, hlc, hcc, hel⟩ := h
  by_cases q : c < 0 ∨ d < 0 ∨ (l.length : Int) ≤ c ∨ (l.length : Int) ≤ d
  · have e1 : Hid (Hier.is l c d = false) := by
      show _ = _
      rw [← Hier.refBelow_eq hw, Hier.refBelow, if_pos q]
    clear hel
    go_enter Try.func20, Try.ntmps20
    go_wp2
    all_goals first | (exfalso; omega) | skip
    all_goals go_ret
    all_goals exact ⟨ret_bool e1.out.symm, rfl⟩
  have q1 : ¬ c < 0 := by omega
  have q2 : ¬ d < 0 := by omega
  have q3 : ¬ (l.length : Int) ≤ c := by omega
  have q4 : ¬ (l.length : Int) ≤ d := by omega
  clear q
  go_enter Try.func20, Try.ntmps20
  go_wp2
  go_loop [1] (fun x => ∃ y : Int, x = .int .i64 y ∧ -1 ≤ y ∧ y < l.length ∧ Hid (Hier.is l c d = Hier.is l y d)) (fun x => (intOf x + 1).toNat)
  case atStart => exact ⟨c, rfl, by omega, by omega, rfl⟩
  case round =>
    obtain ⟨y, rfl, hy1, hy2, hy3⟩ := hrel
    by_cases hlt : d < y
    · obtain ⟨n, rfl⟩ := Int.eq_ofNat_of_zero_le (show 0 ≤ y by omega)
      have hn : n < l.length := by omega
      obtain ⟨b, o, rfl, hb, he⟩ := hel n hn
      have hs := hw n hn
      have hst := Lib.hid (hy3.out.trans (refN_step hw n d (by omega) hlt hy2))
      have hsup : Hid (Hier.sup l (n : Int) = (l[n]).sup) := by
        show _ = _
        rw [Hier.sup, Int.toNat_natCast, Hier.at_eq hn]
      rw [Hier.at_eq hn] at hs
      rw [hsup.out] at hst
      obtain ⟨x, hx⟩ := at_of hn
      rw [hx.out] at he hs hst
      obtain ⟨g1, _⟩ := he
      clear hel
      go_wp2
      go_round
      case rel => exact ⟨_, rfl, by omega, by omega, hst⟩
      case measure => simp [intOf]; omega
    · have hst := Lib.hid (hy3.out.trans (refN_stop hw y d (by omega) (by omega) hy2))
      clear hel
      go_wp2
      go_ret
      exact ⟨ret_bool hst.out.symm, rfl⟩
end HierW
end Go.Proofs.Ytncmhenfgbcihaa
