/- hier.Below, hier.Join, the reference's Join, and the walks through the two laws of classes. -/
import Derived.Test.YtncmhenfgbcihaaUpW
import Derived.Test.YtncmhenfgbcihaaHierR
namespace Go.Proofs.Ytncmhenfgbcihaa
open Go.RowKit
set_option linter.unusedSimpArgs false
set_option linter.unusedVariables false
namespace HierW
open Num Rd D

set_option maxRecDepth 100000 in
set_option maxHeartbeats 1000000 in
theorem below (v : Value) (l : List Cls) (c d : Int) (w : World) (h : Cs w v l) : Calls Try.prog 17 #[v, .int .i64 c, .int .i64 d] w fun e w' => e = .returned (.bool (Hier.below l c d)) ∧ Below w.heap.size w w' := by
  have h' := h
  obtain ⟨a, cap, rfl, _, _, _⟩ := h'
  cases hm : Hier.may l
  · have E : Hid (Hier.below l c d = false) := by show _ = _; rw [Hier.below, hm]; rfl
    have M := Lib.hid hm
    clear hm
    go_enter Try.func17, Try.ntmps17
    go_wp2_with (go_at_call 16; refine (may _ l _ h).mono ?_; rw [M.out]; rintro e w1 ⟨rfl, hb1⟩)
    go_ret
    exact ⟨ret_bool E.out.symm, hb1⟩
  · have E : Hid (Hier.below l c d = Hier.is l c d) := by show _ = _; rw [Hier.below, hm]; rfl
    have M := Lib.hid hm
    clear hm
    go_enter Try.func17, Try.ntmps17
    go_wp2_with (first
      | (go_at_call 16; refine (may _ l _ h).mono ?_; rw [M.out]; rintro e w1 ⟨rfl, hb1⟩)
      | (go_at_call 40; refine (UpW.is _ l c d _ (h.next hb1) (Hier.wf_of_may M.out)).mono ?_; rintro e w2 ⟨rfl, hb2⟩))
    go_ret
    exact ⟨ret_bool E.out.symm, hb1.trans (hb2.mono hb1.size)⟩

set_option maxRecDepth 100000 in
set_option maxHeartbeats 2000000 in
theorem join (v : Value) (l : List Cls) (c d : Int) (w : World) (h : Cs w v l) : Calls Try.prog 18 #[v, .int .i64 c, .int .i64 d] w fun e w' => e = .returned (.int .i64 (Hier.join l c d)) ∧ Below w.heap.size w w' := by
  have h' := h
  obtain ⟨a, cap, rfl, _, _, _⟩ := h'
  by_cases q : Hier.may l = false ∨ c < 0 ∨ d < 0 ∨ (l.length : Int) ≤ c ∨ (l.length : Int) ≤ d
  · have E : Hid (Hier.join l c d = -1) := by show _ = _; rw [Hier.join, if_pos q]
    obtain ⟨m, M⟩ : ∃ m, Hid (Hier.may l = m) := ⟨_, rfl⟩
    rw [M.out] at q
    cases m
    · go_enter Try.func18, Try.ntmps18
      go_wp2_with (go_at_call 16; refine (may _ l _ h).mono ?_; rw [M.out]; rintro e w1 ⟨rfl, hb1⟩)
      all_goals go_ret
      all_goals exact ⟨ret_int E.out.symm, hb1⟩
    · have q' : c < 0 ∨ d < 0 ∨ (l.length : Int) ≤ c ∨ (l.length : Int) ≤ d := by simpa using q
      clear q
      go_enter Try.func18, Try.ntmps18
      go_wp2_with (go_at_call 16; refine (may _ l _ h).mono ?_; rw [M.out]; rintro e w1 ⟨rfl, hb1⟩)
      all_goals first | (exfalso; omega) | skip
      all_goals go_ret
      all_goals exact ⟨ret_int E.out.symm, hb1⟩
  · have E : Hid (Hier.join l c d = Hier.meet l c d) := by show _ = _; rw [Hier.join, if_neg q]
    have M : Hid (Hier.may l = true) := by
      show _ = _
      cases hm : Hier.may l
      · exact absurd (.inl hm) q
      · rfl
    have q1 : ¬ c < 0 := fun h => q (.inr (.inl h))
    have q2 : ¬ d < 0 := fun h => q (.inr (.inr (.inl h)))
    have q3 : ¬ (l.length : Int) ≤ c := fun h => q (.inr (.inr (.inr (.inl h))))
    have q4 : ¬ (l.length : Int) ≤ d := fun h => q (.inr (.inr (.inr (.inr h))))
    clear q
    go_enter Try.func18, Try.ntmps18
    go_wp2_with (first
      | (go_at_call 16; refine (may _ l _ h).mono ?_; rw [M.out]; rintro e w1 ⟨rfl, hb1⟩)
      | (go_at_call 41; refine (UpW.meet _ l c d _ (h.next hb1) (Hier.wf_of_may M.out)).mono ?_; rintro e w2 ⟨rfl, hb2⟩))
    go_ret
    exact ⟨ret_int E.out.symm, hb1.trans (hb2.mono hb1.size)⟩

/-! ### the reference's Join -/
theorem refJN_step (l : List Cls) (c d : Int) (x : Nat) (p q : Bool) (hp : Hier.refBelow l c (x + 1 : Nat) = p) (hq : Hier.refBelow l d (x + 1 : Nat) = q) : Hier.refJN l c d (x + 1) = if p && q then ((x + 1 : Nat) : Int) else Hier.refJN l c d x := by
  rw [Hier.refJN, hp, hq]

set_option maxRecDepth 100000 in
set_option maxHeartbeats 4000000 in
theorem rjoin (v : Value) (l : List Cls) (c d : Int) (w : World) (h : Cs w v l) (hw : Hier.Wf l) (hlen : 0 < l.length) : Calls Try.prog 21 #[v, .int .i64 c, .int .i64 d] w fun e w' => e = .returned (.int .i64 (Hier.refJoin l c d)) ∧ w = w' := by
  have h' := h
  obtain ⟨a, cap, rfl, hlc, hcc, _⟩ := h'
  by_cases q : c < 0 ∨ d < 0 ∨ (l.length : Int) ≤ c ∨ (l.length : Int) ≤ d
  · have e1 : Hid (Hier.refJoin l c d = -1) := by
      show _ = _
      rw [Hier.refJoin, if_pos q]
    go_enter Try.func21, Try.ntmps21
    go_wp2
    all_goals first | (exfalso; omega) | skip
    all_goals go_ret
    all_goals exact ⟨ret_int e1.out.symm, rfl⟩
  have e1 : Hid (Hier.refJoin l c d = Hier.refJN l c d (l.length - 1)) := by
    show _ = _
    rw [Hier.refJoin, if_neg q]
  have q1 : ¬ c < 0 := by omega
  have q2 : ¬ d < 0 := by omega
  have q3 : ¬ (l.length : Int) ≤ c := by omega
  have q4 : ¬ (l.length : Int) ≤ d := by omega
  clear q
  go_enter Try.func21, Try.ntmps21
  go_wp2
  go_loop [7] (fun i => ∃ x : Nat, i = .int .i64 x ∧ x < l.length ∧ Hid (Hier.refJoin l c d = Hier.refJN l c d x)) (fun i => (intOf i).toNat)
  case atStart => exact ⟨l.length - 1, by congr 1; omega, by omega, e1⟩
  case round =>
    obtain ⟨x, rfl, hx, hj⟩ := hrel
    cases x with
    | zero =>
      go_wp2
      go_ret
      exact ⟨ret_int hj.out.symm, rfl⟩
    | succ x =>
      obtain ⟨p, hp⟩ : ∃ p, Hid (Hier.is l c ((x + 1 : Nat) : Int) = p) := ⟨_, rfl⟩
      obtain ⟨r, hr⟩ : ∃ r, Hid (Hier.is l d ((x + 1 : Nat) : Int) = r) := ⟨_, rfl⟩
      have hst := Lib.hid (hj.out.trans (refJN_step l c d x p r ((Hier.refBelow_eq hw _ _).trans hp.out) ((Hier.refBelow_eq hw _ _).trans hr.out)))
      obtain ⟨y, hy⟩ : ∃ y, Hid (x + 1 = y) := ⟨_, rfl⟩
      have hy0 : 0 < y := by rw [← hy.out]; omega
      have hst' : Hid (Hier.refJoin l c d = if p && r then (y : Int) else Hier.refJN l c d (y - 1)) := by
        show _ = _
        rw [hst.out, ← hy.out]; rfl
      rw [hy.out] at hp hr hx ⊢
      clear hst hj
      cases p
      · go_wp2_with fail
        refine (rbelow _ l c y _ h hw).mono ?_
        rw [hp.out]
        rintro e w' ⟨rfl, rfl⟩
        go_wp2
        go_round
        case rel => exact ⟨y - 1, by congr 1; omega, by omega, hst'⟩
        case measure => simp [intOf]; omega
      · cases r
        all_goals
          go_wp2_with fail
          refine (rbelow _ l c y _ h hw).mono ?_
          rw [hp.out]
          rintro e w' ⟨rfl, rfl⟩
          go_wp2_with fail
          refine (rbelow _ l d y _ h hw).mono ?_
          rw [hr.out]
          rintro e w' ⟨rfl, rfl⟩
          go_wp2
        · go_round
          case rel => exact ⟨y - 1, by congr 1; omega, by omega, hst'⟩
          case measure => simp [intOf]; omega
        · go_ret
          exact ⟨ret_int hst'.out.symm, rfl⟩
end HierW
end Go.Proofs.Ytncmhenfgbcihaa
