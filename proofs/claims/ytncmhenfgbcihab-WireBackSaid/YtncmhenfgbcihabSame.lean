/- The reference's Same, at two files with the same data: it answers true. -/
import Derived.Test.YtncmhenfgbcihabStr
import Derived.Test.YtncmhenfgbcihabDrawn
import Derived.Deep.CutRange
import Derived.Deep.QuietTactic
import Derived.BigQuiet
namespace Go.Proofs.Ytncmhenfgbcihab
open Go.RowKit
set_option linter.unusedSimpArgs false
set_option linter.unusedVariables false
namespace Wire
open Num Rd D Bytes HierW

theorem nameWs (P : World → Prop) {w : World} {Q : World → Prop} (h : P w) (k : ∀ W, P W → Q W) : Q w := k w h
theorem allocKs {w : World} {b o : Nat} {v : Value} (h : w.cell? ⟨b, o, none⟩ = some v) (x : Obj) : (w.alloc x).cell? ⟨b, o, none⟩ = some v := by rw [World.cell?_alloc_lt (h := lt_cell' h)]; exact h

set_option maxRecDepth 100000 in
set_option maxHeartbeats 2000000 in
theorem typesS (v1 v2 : Value) (l : List Ty) (w : World) (hs : Sl 2 ETy w w.heap.size v1 l) (hs2 : Sl 2 ETy w w.heap.size v2 l) :
    Calls Try.prog 44 #[v1, v2] w fun e w' => e = .returned (.bool true) ∧ Below w.heap.size w w' := by
  obtain ⟨a, cap, rfl, hlc, hcc, hel⟩ := hs
  obtain ⟨a2, cap2, rfl, hlc2, hcc2, hel2⟩ := hs2
  go_enter Try.func44, Try.ntmps44
  go_wp2
  go_loopw [5] (fun i wr => ∃ k : Nat, k ≤ l.length ∧ i = .int .i64 k ∧ Below w.heap.size w wr) (fun i _ => l.length - (intOf i).toNat)
  case atStart => exact ⟨0, by omega, rfl, (by repeat' (first | with_reducible exact Below.refl _ _ | with_reducible assumption | exact Nat.le_refl _ | with_reducible refine Go.Proofs.Ytncmhenfgbcihab.Rd.below_drewN ?_ _ | with_reducible refine Below.alloc ?_ ?_ _ | with_reducible refine Below.setCell ?_ ?_ _ | with_reducible refine Below.drew ?_ | omega | (simp; omega) | (simp; done)))⟩
  case round =>
    obtain ⟨k, hk, rfl, hb⟩ := hrel
    by_cases hlt : k < l.length
    · obtain ⟨b1, o1, rfl, hb1, he⟩ := hel k hlt
      obtain ⟨b2, o2, rfl, hb2, he2⟩ := hel2 k hlt
      obtain ⟨x, hx⟩ := at_of hlt
      rw [hx.out] at he he2
      obtain ⟨y0, y1, _, _⟩ := he
      obtain ⟨q0, q1, _, _⟩ := he2
      have c0 := kept hb hb1 y0
      have d0 := kept hb hb2 q0
      have c1 := kept hb hb1 y1
      have d1 := kept hb hb2 q1
      have HB := Lib.hid hb
      have hI : (0 : Int) ≤ (k : Int) ∧ (k : Int) < l.length := ⟨by omega, by omega⟩
      obtain ⟨hI1, hI2⟩ := hI
      clear hel hel2 hb
      go_wp2_with fail
      go_quiet (fail)
      go_wp2_with fail
      go_roundw
      case rel => exact ⟨k + 1, by omega, by go_num, below_drewN HB.out _⟩
      case measure => simp [intOf]; omega
    · have hge : ¬ (k : Int) < l.length := by omega
      clear hel hel2
      go_wp2
      go_ret
      exact ⟨ret_bool rfl, hb⟩

set_option maxRecDepth 100000 in
set_option maxHeartbeats 2000000 in
theorem intsS (v1 v2 : Value) (l : List Int) (w : World) (hs : Sl 1 EInt w w.heap.size v1 l) (hs2 : Sl 1 EInt w w.heap.size v2 l) :
    Calls Try.prog 45 #[v1, v2] w fun e w' => e = .returned (.bool true) ∧ Below w.heap.size w w' := by
  obtain ⟨a, cap, rfl, hlc, hcc, hel⟩ := hs
  obtain ⟨a2, cap2, rfl, hlc2, hcc2, hel2⟩ := hs2
  go_enter Try.func45, Try.ntmps45
  go_wp2
  go_loopw [5] (fun i wr => ∃ k : Nat, k ≤ l.length ∧ i = .int .i64 k ∧ Below w.heap.size w wr) (fun i _ => l.length - (intOf i).toNat)
  case atStart => exact ⟨0, by omega, rfl, (by repeat' (first | with_reducible exact Below.refl _ _ | with_reducible assumption | exact Nat.le_refl _ | with_reducible refine Go.Proofs.Ytncmhenfgbcihab.Rd.below_drewN ?_ _ | with_reducible refine Below.alloc ?_ ?_ _ | with_reducible refine Below.setCell ?_ ?_ _ | with_reducible refine Below.drew ?_ | omega | (simp; omega) | (simp; done)))⟩
  case round =>
    obtain ⟨k, hk, rfl, hb⟩ := hrel
    by_cases hlt : k < l.length
    · obtain ⟨b1, o1, rfl, hb1, he⟩ := hel k hlt
      obtain ⟨b2, o2, rfl, hb2, he2⟩ := hel2 k hlt
      obtain ⟨x, hx⟩ := at_of hlt
      rw [hx.out] at he he2
      rw [Nat.mul_one] at he he2
      obtain ⟨y0, _⟩ := he
      obtain ⟨q0, _⟩ := he2
      have c0 := kept hb hb1 y0
      have d0 := kept hb hb2 q0
      have HB := Lib.hid hb
      have hI : (0 : Int) ≤ (k : Int) ∧ (k : Int) < l.length := ⟨by omega, by omega⟩
      obtain ⟨hI1, hI2⟩ := hI
      clear hel hel2 hb
      go_wp2_with fail
      go_quiet (fail)
      go_wp2_with fail
      go_roundw
      case rel => exact ⟨k + 1, by omega, by go_num, below_drewN HB.out _⟩
      case measure => simp [intOf]; omega
    · have hge : ¬ (k : Int) < l.length := by omega
      clear hel hel2
      go_wp2
      go_ret
      exact ⟨ret_bool rfl, hb⟩

set_option maxRecDepth 100000 in
set_option maxHeartbeats 4000000 in
theorem classesS (v1 v2 : Value) (l : List Cls) (w : World) (hs : Sl 2 ECls w w.heap.size v1 l) (hs2 : Sl 2 ECls w w.heap.size v2 l) :
    Calls Try.prog 43 #[v1, v2] w fun e w' => e = .returned (.bool true) ∧ Below w.heap.size w w' := by
  obtain ⟨a, cap, rfl, hlc, hcc, hel⟩ := hs
  obtain ⟨a2, cap2, rfl, hlc2, hcc2, hel2⟩ := hs2
  go_enter Try.func43, Try.ntmps43
  go_wp2
  go_loopw [5] (fun i wr => ∃ k : Nat, k ≤ l.length ∧ i = .int .i64 k ∧ Hid (Below w.heap.size w wr)) (fun i _ => l.length - (intOf i).toNat)
  case atStart => exact ⟨0, by omega, rfl, Lib.hid (by repeat' (first | with_reducible exact Below.refl _ _ | with_reducible assumption | exact Nat.le_refl _ | with_reducible refine Go.Proofs.Ytncmhenfgbcihab.Rd.below_drewN ?_ _ | with_reducible refine Below.alloc ?_ ?_ _ | with_reducible refine Below.setCell ?_ ?_ _ | with_reducible refine Below.drew ?_ | omega | (simp; omega) | (simp; done)))⟩
  case round =>
    obtain ⟨k, hk, rfl, hbr⟩ := hrel
    by_cases hlt : k < l.length
    · obtain ⟨b1, o1, rfl, hb1, he⟩ := hel k hlt
      obtain ⟨b2, o2, rfl, hb2, he2⟩ := hel2 k hlt
      obtain ⟨x, hx⟩ := at_of hlt
      rw [hx.out] at he he2
      obtain ⟨y0, _, v, y1, sv0⟩ := he
      obtain ⟨q0, _, u, q1, su0⟩ := he2
      have sv := Lib.hid sv0
      have su := Lib.hid su0
      obtain ⟨va, vcap, hva, _, _, _⟩ := sv0
      subst hva
      obtain ⟨ua, ucap, hva, _, _, _⟩ := su0
      subst hva
      have c0 := kept hbr.out hb1 y0
      have c1 := kept hbr.out hb1 y1
      have d0 := kept hbr.out hb2 q0
      have d1 := kept hbr.out hb2 q1
      have hI : (0 : Int) ≤ (k : Int) ∧ (k : Int) < l.length := ⟨by omega, by omega⟩
      obtain ⟨hI1, hI2⟩ := hI
      clear hel hel2 y0 y1 q0 q1
      go_wp2_with fail
      refine wp_region_held_drew (S := fun w' => w'.cell? ⟨b1, o1 + k * 2, none⟩ = some (.int .i64 x.sup) ∧ w'.cell? ⟨b1, o1 + k * 2 + 1, none⟩ = some (.slice va x.fields.length vcap) ∧ w'.cell? ⟨b2, o2 + k * 2, none⟩ = some (.int .i64 x.sup) ∧ w'.cell? ⟨b2, o2 + k * 2 + 1, none⟩ = some (.slice ua x.fields.length ucap)) (by kernel_rfl) (by (try dsimp only); exact ⟨c0, c1, d0, d1⟩) (fun hHeld => ?_)
      refine Drawn.tk 0 (some 17) rfl rfl (by assumption) ?_
      try simp only [Act.put, List.setIfInBounds_toArray, List.set_cons_zero, List.set_cons_succ]
      refine Drawn.tk 1 (some 18) rfl rfl (by assumption) ?_
      try simp only [Act.put, List.setIfInBounds_toArray, List.set_cons_zero, List.set_cons_succ]
      refine Drawn.tk 2 (some 19) rfl rfl (by assumption) ?_
      try simp only [Act.put, List.setIfInBounds_toArray, List.set_cons_zero, List.set_cons_succ]
      refine Drawn.tk 3 (some 20) rfl rfl (by assumption) ?_
      try simp only [Act.put, List.setIfInBounds_toArray, List.set_cons_zero, List.set_cons_succ]
      refine Drawn.tk 4 (some 21) rfl rfl (by assumption) ?_
      try simp only [Act.put, List.setIfInBounds_toArray, List.set_cons_zero, List.set_cons_succ]
      refine Drawn.tk 5 (some 22) rfl rfl (by assumption) ?_
      try simp only [Act.put, List.setIfInBounds_toArray, List.set_cons_zero, List.set_cons_succ]
      refine Drawn.tk 6 (some 23) rfl rfl (by assumption) ?_
      try simp only [Act.put, List.setIfInBounds_toArray, List.set_cons_zero, List.set_cons_succ]
      refine Drawn.tk 7 (some 24) rfl rfl (by assumption) ?_
      try simp only [Act.put, List.setIfInBounds_toArray, List.set_cons_zero, List.set_cons_succ]
      refine Drawn.tk 8 (some 25) rfl rfl (by assumption) ?_
      try simp only [Act.put, List.setIfInBounds_toArray, List.set_cons_zero, List.set_cons_succ]
      refine Drawn.tk 9 (some 26) rfl rfl (by assumption) ?_
      try simp only [Act.put, List.setIfInBounds_toArray, List.set_cons_zero, List.set_cons_succ]
      refine Drawn.tk 10 (some 27) rfl rfl (by assumption) ?_
      try simp only [Act.put, List.setIfInBounds_toArray, List.set_cons_zero, List.set_cons_succ]
      refine Drawn.tk 11 (some 28) rfl rfl (by assumption) ?_
      try simp only [Act.put, List.setIfInBounds_toArray, List.set_cons_zero, List.set_cons_succ]
      refine Drawn.tk 12 (some 29) rfl rfl (by assumption) ?_
      try simp only [Act.put, List.setIfInBounds_toArray, List.set_cons_zero, List.set_cons_succ]
      refine Drawn.tk 13 (some 30) rfl rfl (by assumption) ?_
      try simp only [Act.put, List.setIfInBounds_toArray, List.set_cons_zero, List.set_cons_succ]
      refine Drawn.tk 14 (some 31) rfl rfl (by assumption) ?_
      try simp only [Act.put, List.setIfInBounds_toArray, List.set_cons_zero, List.set_cons_succ]
      refine Drawn.tk 15 (some 32) rfl rfl (by assumption) ?_
      try simp only [Act.put, List.setIfInBounds_toArray, List.set_cons_zero, List.set_cons_succ]
      refine Drawn.tk 16 (some 33) rfl rfl (by assumption) ?_
      try simp only [Act.put, List.setIfInBounds_toArray, List.set_cons_zero, List.set_cons_succ]
      refine Drawn.tk 17 (some 34) rfl rfl (by assumption) ?_
      try simp only [Act.put, List.setIfInBounds_toArray, List.set_cons_zero, List.set_cons_succ]
      refine Drawn.tk 18 (some 35) rfl rfl (by assumption) ?_
      try simp only [Act.put, List.setIfInBounds_toArray, List.set_cons_zero, List.set_cons_succ]
      refine Drawn.tk 19 (some 36) rfl rfl (by assumption) ?_
      try simp only [Act.put, List.setIfInBounds_toArray, List.set_cons_zero, List.set_cons_succ]
      refine Drawn.tk 20 (some 37) rfl rfl (by assumption) ?_
      try simp only [Act.put, List.setIfInBounds_toArray, List.set_cons_zero, List.set_cons_succ]
      refine Drawn.tk 21 (some 38) rfl rfl (by assumption) ?_
      try simp only [Act.put, List.setIfInBounds_toArray, List.set_cons_zero, List.set_cons_succ]
      refine wpAnyH_ready (rs := [22]) (by kernel_rfl) (by simp) ?_
      refine AllReadyH.cons rfl (fun K hK => ?_) AllReadyH.nil
      go_simp
      go_at_call 44
      refine (typesS _ _ x.fields _ (by first | exact sv.out.mono mTy hbr.out hbr.out.size | exact sv.out.mono mTy hbr.out.drew hbr.out.size) (by first | exact su.out.mono mTy hbr.out hbr.out.size | exact su.out.mono mTy hbr.out.drew hbr.out.size)).mono ?_
      rintro e v1 ⟨rfl, hb⟩
      replace hb : Below wr.heap.size wr v1 := by first | exact hb | exact ((Below.refl _ _).drew).trans hb
      have c0_v1 := kept hb (lt_cell' c0) c0
      have c1_v1 := kept hb (lt_cell' c1) c1
      have d0_v1 := kept hb (lt_cell' d0) d0
      have d1_v1 := kept hb (lt_cell' d1) d1
      have Hv1 := Lib.hid (hbr.out.trans (hb.mono hbr.out.size))
      clear hb
      go_simp
      refine hK.out _ _ (by (try dsimp only); exact ⟨c0_v1, c1_v1, d0_v1, d1_v1⟩) (fun hHeld => ?_)
      clear hK K
      try simp only [Act.put, List.setIfInBounds_toArray, List.set_cons_zero, List.set_cons_succ]
      refine Drawn.tk 23 (some 40) rfl rfl (by assumption) ?_
      try simp only [Act.put, List.setIfInBounds_toArray, List.set_cons_zero, List.set_cons_succ]
      refine Drawn.tk 24 (some 41) rfl rfl (by assumption) ?_
      try simp only [Act.put, List.setIfInBounds_toArray, List.set_cons_zero, List.set_cons_succ]
      refine wpAnyH_done (by kernel_rfl) ?_ _
      clear c0_v1 c1_v1 d0_v1 d1_v1
      go_wp2_with fail
      go_roundw
      case rel => exact ⟨k + 1, by omega, by go_num, Hv1⟩
      case measure => simp [intOf]; omega
    · have hge : ¬ (k : Int) < l.length := by omega
      clear hel hel2
      go_wp2
      go_ret
      exact ⟨ret_bool rfl, hbr.out⟩
theorem callsWs {P : Program} {fn : FuncId} {args : Array Value} {w : World} {post : Ending → World → Prop} (R : World → Prop) (hR : R w) (h : ∀ W, R W → Calls P fn args W post) : Calls P fn args w post := h w hR

set_option maxRecDepth 100000 in
set_option maxHeartbeats 8000000 in
theorem sameS (va vb : Value) (f : Fi) (w : World) (hf : VFi w w.heap.size va f) (hf2 : VFi w w.heap.size vb f) :
    Calls Try.prog 13 #[va, vb] w fun e w' => e = .returned (.bool true) ∧ Below w.heap.size w w' := by
  obtain ⟨vc, vm, rfl, s1, s2⟩ := hf
  obtain ⟨uc, um, rfl, t1, t2⟩ := hf2
  have S1 := Lib.hid s1; have S2 := Lib.hid s2; have T1 := Lib.hid t1; have T2 := Lib.hid t2
  obtain ⟨ca, ccap, hva, _, _, _⟩ := s1
  subst hva
  obtain ⟨ma, mcap, hva, hm1, hm2, _⟩ := s2
  subst hva
  obtain ⟨da, dcap, hva, _, _, _⟩ := t1
  subst hva
  obtain ⟨na, ncap, hva, hn1, hn2, _⟩ := t2
  subst hva
  go_enter Try.func13, Try.ntmps13
  go_wp2_with fail
  refine (classesS _ _ f.classes _ (S1.out.mono mCls (by repeat' (first | with_reducible exact Below.refl _ _ | with_reducible assumption | exact Nat.le_refl _ | with_reducible refine Go.Proofs.Ytncmhenfgbcihab.Rd.below_drewN ?_ _ | with_reducible refine Below.alloc ?_ ?_ _ | with_reducible refine Below.setCell ?_ ?_ _ | with_reducible refine Below.drew ?_ | omega | (simp; omega) | (simp; done))) (by simp <;> omega)) (T1.out.mono mCls (by repeat' (first | with_reducible exact Below.refl _ _ | with_reducible assumption | exact Nat.le_refl _ | with_reducible refine Go.Proofs.Ytncmhenfgbcihab.Rd.below_drewN ?_ _ | with_reducible refine Below.alloc ?_ ?_ _ | with_reducible refine Below.setCell ?_ ?_ _ | with_reducible refine Below.drew ?_ | omega | (simp; omega) | (simp; done))) (by simp <;> omega))).mono ?_
  rintro e w1 ⟨rfl, hb1⟩
  have y1 : w1.cell? ⟨w.heap.size, 1, none⟩ = some (.slice ma f.methods.length mcap) := kept hb1 (by simp <;> omega) (by go_simp)
  have q1 : w1.cell? ⟨w.heap.size + 1, 1, none⟩ = some (.slice na f.methods.length ncap) := kept hb1 (by simp <;> omega) (by go_simp)
  have hw1 : Below w.heap.size w w1 := Below.trans (by repeat' (first | with_reducible exact Below.refl _ _ | with_reducible assumption | exact Nat.le_refl _ | with_reducible refine Go.Proofs.Ytncmhenfgbcihab.Rd.below_drewN ?_ _ | with_reducible refine Below.alloc ?_ ?_ _ | with_reducible refine Below.setCell ?_ ?_ _ | with_reducible refine Below.drew ?_ | omega | (simp; omega) | (simp; done))) (hb1.mono (by simp <;> omega))
  have HW1 := Lib.hid hw1
  clear hb1 hw1
  go_wp2_with fail
  go_loopw [5] (fun i wr => ∃ k : Nat, k ≤ f.methods.length ∧ i = .int .i64 k ∧ Hid (Below w.heap.size w wr) ∧ wr.cell? ⟨w.heap.size, 1, none⟩ = some (.slice ma f.methods.length mcap) ∧ wr.cell? ⟨w.heap.size + 1, 1, none⟩ = some (.slice na f.methods.length ncap)) (fun i _ => f.methods.length - (intOf i).toNat)
  case atStart => exact ⟨0, by omega, rfl, HW1, y1, q1⟩
  case round =>
  obtain ⟨k, hk, rfl, hb, z1, x1⟩ := hrel
  clear y1 q1
  by_cases hlt : k < f.methods.length
  · obtain ⟨a, cap', ha, _, _, hel⟩ := S2.out
    simp only [Value.slice.injEq] at ha
    obtain ⟨rfl, _, rfl⟩ := ha
    obtain ⟨a, cap', ha, _, _, hel2⟩ := T2.out
    simp only [Value.slice.injEq] at ha
    obtain ⟨rfl, _, rfl⟩ := ha
    obtain ⟨b1, o1, rfl, hb1, he⟩ := hel k hlt
    obtain ⟨b2, o2, rfl, hb2, he2⟩ := hel2 k hlt
    obtain ⟨x, hx⟩ := at_of hlt
    rw [hx.out] at he he2
    obtain ⟨vpa, vca, vha, y0, y1, y2, y3, y4, y5, y6, y7, _, sa1, sa2, sa3⟩ := he
    obtain ⟨vpb, vcb, vhb, q0, q1, q2, q3, q4, q5, q6, q7, _, sb1, sb2, sb3⟩ := he2
    have c0 := kept hb.out hb1 y0
    have d0 := kept hb.out hb2 q0
    have c1 := kept hb.out hb1 y1
    have d1 := kept hb.out hb2 q1
    have c2 := kept hb.out hb1 y2
    have d2 := kept hb.out hb2 q2
    have c3 := kept hb.out hb1 y3
    have d3 := kept hb.out hb2 q3
    have c4 := kept hb.out hb1 y4
    have d4 := kept hb.out hb2 q4
    have c5 := kept hb.out hb1 y5
    have d5 := kept hb.out hb2 q5
    have c6 := kept hb.out hb1 y6
    have d6 := kept hb.out hb2 q6
    have c7 := kept hb.out hb1 y7
    have d7 := kept hb.out hb2 q7
    have p1 := Lib.hid sa1; have p2 := Lib.hid sa2; have p3 := Lib.hid sa3; have r1 := Lib.hid sb1; have r2 := Lib.hid sb2; have r3 := Lib.hid sb3
    obtain ⟨pa, pcap, hva, _, _, _⟩ := sa1
    subst hva
    obtain ⟨ia, icap, hva, hi1, hi2, _⟩ := sa2
    subst hva
    obtain ⟨ha, hcap, hva, hh1, hh2, _⟩ := sa3
    subst hva
    obtain ⟨pb, pcap2, hva, _, _, _⟩ := sb1
    subst hva
    obtain ⟨ib, icap2, hva, hj1, hj2, _⟩ := sb2
    subst hva
    obtain ⟨hb', hcap2, hva, hk1, hk2, _⟩ := sb3
    subst hva
    have hI : (k : Int) < f.methods.length := by omega
    have hlx := lt_cell' x1
    have hld : ∀ (i : Nat), b2 < wr.heap.size := fun _ => lt_cell' d0
    have hld' := hld 0
    clear hel hel2 hld y0 q0 y1 q1 y2 q2 y3 q3 y4 q4 y5 q5 y6 q6 y7 q7
    go_wp2_with fail
    refine callsWs (fun W' => Hid (Below w.heap.size w W') ∧ wr.heap.size + 1 < W'.heap.size ∧ W'.cell? ⟨w.heap.size, 1, none⟩ = some (.slice (some ⟨b1, o1, none⟩) f.methods.length mcap) ∧ W'.cell? ⟨w.heap.size + 1, 1, none⟩ = some (.slice (some ⟨b2, o2, none⟩) f.methods.length ncap) ∧ (W'.cell? ⟨wr.heap.size, 0, none⟩ = some (.slice pa x.params.length pcap) ∧ W'.cell? ⟨wr.heap.size, 1, none⟩ = some (.int .i64 x.ret.kind) ∧ W'.cell? ⟨wr.heap.size, 2, none⟩ = some (.int .i64 x.ret.cls) ∧ W'.cell? ⟨wr.heap.size, 3, none⟩ = some (.int .i64 x.stack) ∧ W'.cell? ⟨wr.heap.size, 4, none⟩ = some (.int .i64 x.locals) ∧ W'.cell? ⟨wr.heap.size, 5, none⟩ = some (.int .i64 x.regs) ∧ W'.cell? ⟨wr.heap.size, 6, none⟩ = some (.slice ia x.code.length icap) ∧ W'.cell? ⟨wr.heap.size, 7, none⟩ = some (.slice ha x.handlers.length hcap)) ∧ (W'.cell? ⟨wr.heap.size + 1, 0, none⟩ = some (.slice pb x.params.length pcap2) ∧ W'.cell? ⟨wr.heap.size + 1, 1, none⟩ = some (.int .i64 x.ret.kind) ∧ W'.cell? ⟨wr.heap.size + 1, 2, none⟩ = some (.int .i64 x.ret.cls) ∧ W'.cell? ⟨wr.heap.size + 1, 3, none⟩ = some (.int .i64 x.stack) ∧ W'.cell? ⟨wr.heap.size + 1, 4, none⟩ = some (.int .i64 x.locals) ∧ W'.cell? ⟨wr.heap.size + 1, 5, none⟩ = some (.int .i64 x.regs) ∧ W'.cell? ⟨wr.heap.size + 1, 6, none⟩ = some (.slice ib x.code.length icap2) ∧ W'.cell? ⟨wr.heap.size + 1, 7, none⟩ = some (.slice hb' x.handlers.length hcap2))) ?_ ?_
    · exact ⟨Lib.hid ((hb.out.alloc hb.out.size _).alloc (by have := hb.out.size; simp; omega) _), by simp, allocKs (allocKs z1 _) _, allocKs (allocKs x1 _) _, ⟨by go_simp, by go_simp, by go_simp, by go_simp, by go_simp, by go_simp, by go_simp, by go_simp⟩, ⟨by go_simp, by go_simp, by go_simp, by go_simp, by go_simp, by go_simp, by go_simp, by go_simp⟩⟩
    rintro wn ⟨hbn, hnl, z1', x1', ⟨e0, e1, e2, e3, e4, e5, e6, e7⟩, ⟨g0, g1, g2, g3, g4, g5, g6, g7⟩⟩
    generalize hnm : wr.heap.size = nm at *
    clear z1 x1 c0 d0 c1 d1 c2 d2 c3 d3 c4 d4 c5 d5 c6 d6 c7 d7 hnm
    refine (typesS _ _ x.params _ (p1.out.mono mTy hbn.out hbn.out.size) (r1.out.mono mTy hbn.out hbn.out.size)).mono ?_
    rintro e w2 ⟨rfl, hb3⟩
    have HB3 := Lib.hid (hbn.out.trans (hb3.mono hbn.out.size))
    replace z1' := kept hb3 (lt_cell' z1') z1'
    replace x1' := kept hb3 (lt_cell' x1') x1'
    replace e1 := kept hb3 (lt_cell' e1) e1
    replace e2 := kept hb3 (lt_cell' e2) e2
    replace e3 := kept hb3 (lt_cell' e3) e3
    replace e4 := kept hb3 (lt_cell' e4) e4
    replace e5 := kept hb3 (lt_cell' e5) e5
    replace e6 := kept hb3 (lt_cell' e6) e6
    replace e7 := kept hb3 (lt_cell' e7) e7
    replace g1 := kept hb3 (lt_cell' g1) g1
    replace g2 := kept hb3 (lt_cell' g2) g2
    replace g3 := kept hb3 (lt_cell' g3) g3
    replace g4 := kept hb3 (lt_cell' g4) g4
    replace g5 := kept hb3 (lt_cell' g5) g5
    replace g6 := kept hb3 (lt_cell' g6) g6
    replace g7 := kept hb3 (lt_cell' g7) g7
    clear hb3 e0 g0
    go_wp2_with fail
    clear e1 e2 e3 e4 e5 g1 g2 g3 g4 g5
    go_loopw [8] (fun i wr => ∃ j : Nat, j ≤ x.code.length ∧ i = .int .i64 j ∧ Hid (Below w.heap.size w wr) ∧ wr.cell? ⟨w.heap.size, 1, none⟩ = some (.slice (some ⟨b1, o1, none⟩) f.methods.length mcap) ∧ wr.cell? ⟨w.heap.size + 1, 1, none⟩ = some (.slice (some ⟨b2, o2, none⟩) f.methods.length ncap) ∧ wr.cell? ⟨nm, 6, none⟩ = some (.slice ia x.code.length icap) ∧ wr.cell? ⟨nm, 7, none⟩ = some (.slice ha x.handlers.length hcap) ∧ wr.cell? ⟨nm + 1, 6, none⟩ = some (.slice ib x.code.length icap2) ∧ wr.cell? ⟨nm + 1, 7, none⟩ = some (.slice hb' x.handlers.length hcap2)) (fun i _ => x.code.length - (intOf i).toNat)
    case atStart => exact ⟨0, by omega, rfl, HB3, z1', x1', e6, e7, g6, g7⟩
    case round =>
    obtain ⟨j, hj, rfl, hbi, z1, x1, c6, c7, d6, d7⟩ := hrel
    clear z1' x1' e6 e7 g6 g7
    by_cases hltj : j < x.code.length
    · obtain ⟨a, cap', ha', _, _, hel⟩ := p2.out
      simp only [Value.slice.injEq] at ha'
      obtain ⟨rfl, _, rfl⟩ := ha'
      obtain ⟨a, cap', ha', _, _, hel2⟩ := r2.out
      simp only [Value.slice.injEq] at ha'
      obtain ⟨rfl, _, rfl⟩ := ha'
      obtain ⟨b3, o3, rfl, hb3, he⟩ := hel j hltj
      obtain ⟨b4, o4, rfl, hb4, he2⟩ := hel2 j hltj
      obtain ⟨x2, hx2⟩ := at_of hltj
      rw [hx2.out] at he he2
      obtain ⟨y0, y1, y2, y3, y4, _, vv, y5, sv0⟩ := he
      obtain ⟨q0, q1, q2, q3, q4, _, uv, q5, su0⟩ := he2
      have f0 := kept hbi.out hb3 y0
      have h0 := kept hbi.out hb4 q0
      have f1 := kept hbi.out hb3 y1
      have h1 := kept hbi.out hb4 q1
      have f2 := kept hbi.out hb3 y2
      have h2 := kept hbi.out hb4 q2
      have f3 := kept hbi.out hb3 y3
      have h3 := kept hbi.out hb4 q3
      have f4 := kept hbi.out hb3 y4
      have h4 := kept hbi.out hb4 q4
      have f5 := kept hbi.out hb3 y5
      have h5 := kept hbi.out hb4 q5
      have sv := Lib.hid sv0; have su := Lib.hid su0
      obtain ⟨aa, acap, hva, _, _, _⟩ := sv0
      subst hva
      obtain ⟨ab, acap2, hva, _, _, _⟩ := su0
      subst hva
      have hIj : (j : Int) < x.code.length := by omega
      clear hel hel2 y0 y1 y2 y3 y4 y5 q0 q1 q2 q3 q4 q5
      have hl6 := lt_cell' d6
      have hl7 := lt_cell' h0
      go_wp2_with fail
      refine callsWs (fun W' => Hid (Below w.heap.size w W') ∧ W'.cell? ⟨w.heap.size, 1, none⟩ = some (.slice (some ⟨b1, o1, none⟩) f.methods.length mcap) ∧ W'.cell? ⟨w.heap.size + 1, 1, none⟩ = some (.slice (some ⟨b2, o2, none⟩) f.methods.length ncap) ∧ W'.cell? ⟨nm, 6, none⟩ = some (.slice (some ⟨b3, o3, none⟩) x.code.length icap) ∧ W'.cell? ⟨nm, 7, none⟩ = some (.slice ha x.handlers.length hcap) ∧ W'.cell? ⟨nm + 1, 6, none⟩ = some (.slice (some ⟨b4, o4, none⟩) x.code.length icap2) ∧ W'.cell? ⟨nm + 1, 7, none⟩ = some (.slice hb' x.handlers.length hcap2)) ?_ ?_
      · exact ⟨Lib.hid ((hbi.out.alloc hbi.out.size _).alloc (by have := hbi.out.size; simp; omega) _), allocKs (allocKs z1 _) _, allocKs (allocKs x1 _) _, allocKs (allocKs c6 _) _, allocKs (allocKs c7 _) _, allocKs (allocKs d6 _) _, allocKs (allocKs d7 _) _⟩
      rintro wi ⟨hbj, z1', x1', e6, e7, g6, g7⟩
      clear z1 x1 c6 c7 d6 d7 hl6 hl7 f0 h0 f1 h1 f2 h2 f3 h3 f4 h4 f5 h5
      refine (intsS _ _ x2.args _ (sv.out.mono mInt hbj.out hbj.out.size) (su.out.mono mInt hbj.out hbj.out.size)).mono ?_
      rintro e w3 ⟨rfl, hb5⟩
      have HB5 := Lib.hid (hbj.out.trans (hb5.mono hbj.out.size))
      replace z1' := kept hb5 (lt_cell' z1') z1'
      replace x1' := kept hb5 (lt_cell' x1') x1'
      replace e6 := kept hb5 (lt_cell' e6) e6
      replace e7 := kept hb5 (lt_cell' e7) e7
      replace g6 := kept hb5 (lt_cell' g6) g6
      replace g7 := kept hb5 (lt_cell' g7) g7
      clear hb5
      go_wp2_with fail
      go_roundw
      case rel => exact ⟨j + 1, by omega, by go_num, HB5, z1', x1', e6, e7, g6, g7⟩
      case measure => simp [intOf]; omega
    · have hgej : ¬ (j : Int) < x.code.length := by omega
      go_wp2_with fail
      go_loopw [11] (fun i wr => ∃ i2 : Nat, i2 ≤ x.handlers.length ∧ i = .int .i64 i2 ∧ Hid (Below w.heap.size w wr) ∧ wr.cell? ⟨w.heap.size, 1, none⟩ = some (.slice (some ⟨b1, o1, none⟩) f.methods.length mcap) ∧ wr.cell? ⟨w.heap.size + 1, 1, none⟩ = some (.slice (some ⟨b2, o2, none⟩) f.methods.length ncap) ∧ wr.cell? ⟨nm, 7, none⟩ = some (.slice ha x.handlers.length hcap) ∧ wr.cell? ⟨nm + 1, 7, none⟩ = some (.slice hb' x.handlers.length hcap2)) (fun i _ => x.handlers.length - (intOf i).toNat)
      case atStart => exact ⟨0, by omega, rfl, hbi, z1, x1, c7, d7⟩
      case round =>
      obtain ⟨i2, hi2', rfl, hbh, z1', x1', e7, g7⟩ := hrel
      clear z1 x1 c6 c7 d6 d7
      by_cases hlti : i2 < x.handlers.length
      · obtain ⟨a, cap', ha', _, _, hel⟩ := p3.out
        simp only [Value.slice.injEq] at ha'
        obtain ⟨rfl, _, rfl⟩ := ha'
        obtain ⟨a, cap', ha', _, _, hel2⟩ := r3.out
        simp only [Value.slice.injEq] at ha'
        obtain ⟨rfl, _, rfl⟩ := ha'
        obtain ⟨b3, o3, rfl, hb3, he⟩ := hel i2 hlti
        obtain ⟨b4, o4, rfl, hb4, he2⟩ := hel2 i2 hlti
        obtain ⟨x2, hx2⟩ := at_of hlti
        rw [hx2.out] at he he2
        obtain ⟨y0, y1, y2, y3, _⟩ := he
        obtain ⟨q0, q1, q2, q3, _⟩ := he2
        have f0 := kept hbh.out hb3 y0
        have h0 := kept hbh.out hb4 q0
        have f1 := kept hbh.out hb3 y1
        have h1 := kept hbh.out hb4 q1
        have f2 := kept hbh.out hb3 y2
        have h2 := kept hbh.out hb4 q2
        have f3 := kept hbh.out hb3 y3
        have h3 := kept hbh.out hb4 q3
        have hI1 : (0 : Int) ≤ (i2 : Int) := by omega
        have hIi : (i2 : Int) < x.handlers.length := by omega
        clear hel hel2 y0 y1 y2 y3 q0 q1 q2 q3
        go_wp2_with fail
        go_quiet (fail)
        go_wp2_with fail
        go_roundw
        case rel => exact ⟨i2 + 1, by omega, by go_num, below_drewN hbh.out _, z1', x1', e7, g7⟩
        case measure => simp [intOf]; omega
      · have hgei : ¬ (i2 : Int) < x.handlers.length := by omega
        go_wp2_with fail
        go_roundw
        case rel => exact ⟨k + 1, by omega, by go_num, hbh, z1', x1'⟩
        case measure => simp [intOf]; omega
  · have hge : ¬ (k : Int) < f.methods.length := by omega
    go_wp2_with fail
    go_ret
    exact ⟨ret_bool rfl, hb.out⟩
end Wire
end Go.Proofs.Ytncmhenfgbcihab
