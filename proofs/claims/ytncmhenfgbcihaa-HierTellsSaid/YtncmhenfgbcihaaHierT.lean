/- The walks through the two laws of classes. -/
import Derived.Test.YtncmhenfgbcihaaHierL
namespace Go.Proofs.Ytncmhenfgbcihaa
open Go.RowKit
set_option linter.unusedSimpArgs false
set_option linter.unusedVariables false
namespace HierW
open Num Rd D

set_option maxRecDepth 100000 in
set_option maxHeartbeats 4000000 in
theorem hierTells (v : Value) (l : List Cls) (c d : Int) (w : World) (h : Cs w v l) (_hc : Ok c) (_hd : Ok d) : Calls Try.prog 4 #[v, .int .i64 c, .int .i64 d] w fun e w' => e = .returned (.bool true) ∧ Below w.heap.size w w' := by
  have h' := h
  obtain ⟨a, cap, rfl, _, _, _⟩ := h'
  obtain ⟨m, M⟩ : ∃ m, Hid (Hier.may l = m) := ⟨_, rfl⟩
  cases m
  · have e1 : Hid (Hier.below l c d = false) := by show _ = _; rw [Hier.below, M.out]; rfl
    have e2 : Hid (Hier.join l c d = -1) := by show _ = _; rw [Hier.join, if_pos (.inl M.out)]
    go_enter Try.func4, Try.ntmps4
    go_wp2_with fail
    refine (may _ l _ h).mono ?_
    rw [M.out]
    rintro e w1 ⟨rfl, b1⟩
    go_wp2_with fail
    refine (below _ l c d _ (h.next b1)).mono ?_
    rw [e1.out]
    rintro e w2 ⟨rfl, b2⟩
    have b2' := b1.trans (b2.mono b1.size)
    go_wp2_with fail
    refine (join _ l c d _ (h.next b2')).mono ?_
    rw [e2.out]
    rintro e w3 ⟨rfl, b3⟩
    have b3' := b2'.trans (b3.mono b2'.size)
    go_wp2_with fail
    refine (rmay _ l _ (h.next b3')).mono ?_
    rw [M.out]
    rintro e w4 ⟨rfl, b4⟩
    have b4' := b3'.trans (b4.mono b3'.size)
    go_wp2
    all_goals go_ret
    all_goals exact ⟨rfl, b4'⟩
  · have hw := Hier.wf_of_may M.out
    have hlen : 0 < l.length := by have := ((Hier.may_iff l).1 M.out).1; omega
    have e1 : Hid (Hier.below l c d = Hier.is l c d) := by show _ = _; rw [Hier.below, M.out]; rfl
    have e2 : Hid (Hier.join l c d = Hier.refJoin l c d) := Hier.join_eq M.out c d
    go_enter Try.func4, Try.ntmps4
    go_wp2_with fail
    refine (may _ l _ h).mono ?_
    rw [M.out]
    rintro e w1 ⟨rfl, b1⟩
    go_wp2_with fail
    refine (below _ l c d _ (h.next b1)).mono ?_
    rw [e1.out]
    rintro e w2 ⟨rfl, b2⟩
    have b2' := b1.trans (b2.mono b1.size)
    go_wp2_with fail
    refine (join _ l c d _ (h.next b2')).mono ?_
    rw [e2.out]
    rintro e w3 ⟨rfl, b3⟩
    have b3' := b2'.trans (b3.mono b2'.size)
    go_wp2_with fail
    refine (rmay _ l _ (h.next b3')).mono ?_
    rw [M.out]
    rintro e w4 ⟨rfl, b4⟩
    have b4' := b3'.trans (b4.mono b3'.size)
    go_wp2_with (first
      | (go_at_call 20; refine (rbelow _ l c d _ (h.next b4') hw).mono ?_; rintro e w5 ⟨rfl, rfl⟩)
      | (go_at_call 21; refine (rjoin _ l c d _ (h.next b4') hw hlen).mono ?_; rintro e w5 ⟨rfl, rfl⟩))
    all_goals go_ret
    all_goals exact ⟨rfl, b4'⟩

theorem below_eq {l : List Cls} (h : Hier.may l = true) (c d : Int) : Hier.below l c d = Hier.is l c d := by rw [Hier.below, h]; rfl
theorem join_eq {l : List Cls} (h : Hier.may l = true) {c d : Int} (hc : 0 ≤ c ∧ c < l.length) (hd : 0 ≤ d ∧ d < l.length) : Hier.join l c d = Hier.meet l c d := by
  rw [Hier.join, if_neg (by rw [h]; simp; omega)]
theorem below_mid {l : List Cls} {c d e : Int} (h : c < 0 ∨ d < 0 ∨ e < 0 ∨ (l.length : Int) ≤ c ∨ (l.length : Int) ≤ d ∨ (l.length : Int) ≤ e) (hm : Hier.may l = true) : Hier.is l c d = false ∨ Hier.is l d e = false ∨ Hier.is l c e = false := by
  have hw := Hier.wf_of_may hm
  cases h1 : Hier.is l c d
  · exact .inl rfl
  cases h2 : Hier.is l d e
  · exact .inr (.inl rfl)
  have a1 := Hier.is_lt h1
  have a2 := Hier.is_le' hw h1
  have a3 := Hier.is_lt h2
  have a4 := Hier.is_le' hw h2
  omega

theorem belowB (w0 : World) (v : Value) (l : List Cls) (c d : Int) (p : Bool) (w : World) (h : Cs w0 v l) (hm : Hier.may l = true) (hp : Hier.is l c d = p) (hb : Below w0.heap.size w0 w) :
    Calls Try.prog 17 #[v, .int .i64 c, .int .i64 d] w fun e w' => e = .returned (.bool p) ∧ Below w0.heap.size w0 w' := by
  subst hp
  rw [← below_eq hm]
  exact based hb (below v l c d w (h.next hb))
theorem joinB (w0 : World) (v : Value) (l : List Cls) (c d j : Int) (w : World) (h : Cs w0 v l) (hj : Hier.join l c d = j) (hb : Below w0.heap.size w0 w) :
    Calls Try.prog 18 #[v, .int .i64 c, .int .i64 d] w fun e w' => e = .returned (.int .i64 j) ∧ Below w0.heap.size w0 w' := by
  subst hj
  exact based hb (join v l c d w (h.next hb))

set_option maxRecDepth 100000 in
set_option maxHeartbeats 8000000 in
theorem hierJoins (v : Value) (l : List Cls) (c d e : Int) (w : World) (h : Cs w v l) (_hc : Ok c) (_hd : Ok d) (_he : Ok e) : Calls Try.prog 5 #[v, .int .i64 c, .int .i64 d, .int .i64 e] w fun e w' => e = .returned (.bool true) ∧ Below w.heap.size w w' := by
  have h' := h
  obtain ⟨a, cap, rfl, _, hcc, _⟩ := h'
  obtain ⟨m, M⟩ : ∃ m, Hid (Hier.may l = m) := ⟨_, rfl⟩
  cases m
  · have e1 : ∀ x y, Hid (Hier.below l x y = false) := fun x y => by show _ = _; rw [Hier.below, M.out]; rfl
    have e2 : ∀ x y, Hid (Hier.join l x y = -1) := fun x y => by show _ = _; rw [Hier.join, if_pos (.inl M.out)]
    go_enter Try.func5, Try.ntmps5
    go_wp2_with fail
    refine (may _ l _ h).mono ?_
    rw [M.out]
    rintro r w1 ⟨rfl, b1⟩
    go_wp2_with fail
    refine (below _ l c c _ (h.next b1)).mono ?_
    rw [(e1 _ _).out]
    rintro r w2 ⟨rfl, b2⟩
    have b2' := b1.trans (b2.mono b1.size)
    go_wp2_with fail
    refine (join _ l c d _ (h.next b2')).mono ?_
    rw [(e2 _ _).out]
    rintro r w3 ⟨rfl, b3⟩
    have b3' := b2'.trans (b3.mono b2'.size)
    go_wp2
    all_goals go_ret
    all_goals exact ⟨rfl, b3'⟩
  · have hw := Hier.wf_of_may M.out
    have hb0 : Below w.heap.size w w := Below.refl _ _
    obtain ⟨p1, P1⟩ : ∃ p, Hid (Hier.is l c d = p) := ⟨_, rfl⟩
    obtain ⟨p2, P2⟩ : ∃ p, Hid (Hier.is l d e = p) := ⟨_, rfl⟩
    obtain ⟨p3, P3⟩ : ∃ p, Hid (Hier.is l c e = p) := ⟨_, rfl⟩
    by_cases q : c < 0 ∨ d < 0 ∨ e < 0 ∨ (l.length : Int) ≤ c ∨ (l.length : Int) ≤ d ∨ (l.length : Int) ≤ e
    · have hmid : p1 = false ∨ p2 = false ∨ p3 = false := by
        have := below_mid q M.out
        rw [P1.out, P2.out, P3.out] at this
        exact this
      cases p1 <;> cases p2 <;> cases p3
      all_goals first | (exfalso; simp at hmid; done) | skip
      all_goals
        clear hmid
        go_enter Try.func5, Try.ntmps5
        go_wp2_with (first
          | (go_at_call 16; refine (based hb0 (may _ l _ h)).mono ?_; rw [M.out]; rintro r w1 ⟨rfl, hb1⟩)
          | ((with_reducible refine (belowB w _ l c d _ _ h M.out P1.out (by assumption)).mono ?_); rintro r w2 ⟨rfl, hb2⟩)
          | ((with_reducible refine (belowB w _ l d e _ _ h M.out P2.out (by assumption)).mono ?_); rintro r w2 ⟨rfl, hb2⟩)
          | ((with_reducible refine (belowB w _ l c e _ _ h M.out P3.out (by assumption)).mono ?_); rintro r w2 ⟨rfl, hb2⟩))
        all_goals first | (exfalso; omega) | skip
        all_goals go_ret
        all_goals exact ⟨rfl, by assumption⟩
    · have hc : 0 ≤ c ∧ c < l.length := by omega
      have hd : 0 ≤ d ∧ d < l.length := by omega
      obtain ⟨j, hj⟩ : ∃ j, Hid (Hier.meet l c d = j) := ⟨_, rfl⟩
      have J1 : Hid (Hier.join l c d = j) := (join_eq M.out hc hd).trans hj.out
      have J2 : Hid (Hier.join l d c = j) := (join_eq M.out hd hc).trans ((Hier.join_comm M.out hd hc).trans hj.out)
      obtain ⟨k1, k2, _⟩ := Hier.join_best M.out hc hd
      rw [hj.out] at k1 k2
      have K1 := Lib.hid k1
      have K2 := Lib.hid k2
      have K3 : Hid (Hier.is l c c = true) := by show _ = _; rw [Hier.is_in hw hc]; simp
      have K4 := Lib.hid (Hier.is_root M.out (c.toNat + 1) c (by omega) hc.1 hc.2)
      have K5 : Hid (Hier.is l j e = (p3 && p2)) := by
        show _ = _
        rw [← P3.out, ← P2.out, ← hj.out]; exact (Hier.is_join M.out hc hd).symm
      have hmid : p1 = true → p2 = true → p3 = true := by
        rw [← P1.out, ← P2.out, ← P3.out]
        exact fun h1 h2 => Hier.is_trans hw (c.toNat + 1) c d e (by omega) h1 h2
      have n1 : ¬ c < 0 := by omega
      have n2 : ¬ d < 0 := by omega
      have n3 : ¬ e < 0 := by omega
      have n4 : ¬ (l.length : Int) ≤ c := by omega
      have n5 : ¬ (l.length : Int) ≤ d := by omega
      have n6 : ¬ (l.length : Int) ≤ e := by omega
      clear k1 k2 hc hd q
      cases p1 <;> cases p2 <;> cases p3
      all_goals first | (exfalso; simp at hmid; done) | skip
      all_goals
        clear hmid
        simp only [Bool.and_true, Bool.and_false, Bool.true_and, Bool.false_and] at K5
        go_enter Try.func5, Try.ntmps5
        go_wp2_with (first
          | (go_at_call 16; refine (based hb0 (may _ l _ h)).mono ?_; rw [M.out]; rintro r w1 ⟨rfl, hb1⟩)
          | ((with_reducible refine (joinB w _ l c d _ _ h J1.out (by assumption)).mono ?_); rintro r w2 ⟨rfl, hb2⟩)
          | ((with_reducible refine (joinB w _ l d c _ _ h J2.out (by assumption)).mono ?_); rintro r w2 ⟨rfl, hb2⟩)
          | ((with_reducible refine (belowB w _ l c c _ _ h M.out K3.out (by assumption)).mono ?_); rintro r w2 ⟨rfl, hb2⟩)
          | ((with_reducible refine (belowB w _ l c 0 _ _ h M.out K4.out (by assumption)).mono ?_); rintro r w2 ⟨rfl, hb2⟩)
          | ((with_reducible refine (belowB w _ l c j _ _ h M.out K1.out (by assumption)).mono ?_); rintro r w2 ⟨rfl, hb2⟩)
          | ((with_reducible refine (belowB w _ l d j _ _ h M.out K2.out (by assumption)).mono ?_); rintro r w2 ⟨rfl, hb2⟩)
          | ((with_reducible refine (belowB w _ l j e _ _ h M.out K5.out (by assumption)).mono ?_); rintro r w2 ⟨rfl, hb2⟩)
          | ((with_reducible refine (belowB w _ l c d _ _ h M.out P1.out (by assumption)).mono ?_); rintro r w2 ⟨rfl, hb2⟩)
          | ((with_reducible refine (belowB w _ l d e _ _ h M.out P2.out (by assumption)).mono ?_); rintro r w2 ⟨rfl, hb2⟩)
          | ((with_reducible refine (belowB w _ l c e _ _ h M.out P3.out (by assumption)).mono ?_); rintro r w2 ⟨rfl, hb2⟩))
        all_goals go_ret
        all_goals exact ⟨rfl, by assumption⟩
end HierW
end Go.Proofs.Ytncmhenfgbcihaa
