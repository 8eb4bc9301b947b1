/- The walks through num, its reference, and the two laws of numbers. -/
import Derived.Test.YtncmhenfgbcihaaNum
import Derived.Test.YtncmhenfgbcihaaRows
import Derived.WalkKit
import Derived.WalkSpells
import Derived.WalkLawsBesides
namespace Go.Proofs.Ytncmhenfgbcihaa
open Go.RowKit
set_option linter.unusedSimpArgs false
set_option linter.unusedVariables false
namespace NumW
open Num

theorem ret_int {k : IntKind} {a b : Int} (h : a = b) : Ending.returned (.int k a) = .returned (.int k b) := by rw [h]
theorem ret_bool {a b : Bool} (h : a = b) : Ending.returned (.bool a) = .returned (.bool b) := by rw [h]
theorem ret_int_bool {k : IntKind} {a b : Int} {c d : Bool} (h : (a, c) = (b, d)) : Ending.returned (.tuple #[.int k a, .bool c]) = .returned (.tuple #[.int k b, .bool d]) := by
  cases h; rfl

theorem narrow (a : Int) (w : World) : Calls Try.prog 14 #[.int .i64 a] w fun e w' => e = .returned (.int .i64 (wrap32 a)) ∧ w = w' := by
  go_enter Try.func14, Try.ntmps14
  go_wp2
  go_ret
  exact ⟨ret_int (wrap64_id (wrap32_ok a)), rfl⟩

theorem wrap64_zero : wrap64 0 = 0 := by simp [wrap64]

theorem long_pair (p : Int × Bool) (x : Int) (o : Bool) (h : p = (x, o)) : Ending.returned (.tuple #[.int .i64 p.1, .bool p.2]) = .returned (.tuple #[.int .i64 x, .bool o]) := by
  subst h; rfl

set_option maxHeartbeats 1000000 in
theorem long (op a b : Int) (w : World) (ha : Ok a) : Calls Try.prog 13 #[.int .i64 op, .int .i64 a, .int .i64 b] w fun e w' => e = .returned (.tuple #[.int .i64 (Num.long op a b).1, .bool (Num.long op a b).2]) ∧ w = w' := by
  by_cases h0 : b = 0
  · subst h0
    go_enter Try.func13, Try.ntmps13
    go_wp2
    all_goals go_ret2
    all_goals refine ⟨(long_pair _ _ _ ?_).symm, rfl⟩
    all_goals simp_all [Num.long, wrap64_zero]
  by_cases h1 : b = -1
  · subst h1
    go_enter Try.func13, Try.ntmps13
    go_wp2
    all_goals go_ret2
    all_goals refine ⟨(long_pair _ _ _ ?_).symm, rfl⟩
    all_goals simp_all [Num.long, wrap64_zero]
  have q0 : (b == 0) = false := by simpa using h0
  have q1 : (b == -1) = false := by simpa using h1
  have t1 := wrap64_id (tdiv_ok ha h1)
  have t2 := wrap64_id (tmod_ok (b := b) ha)
  go_enter Try.func13, Try.ntmps13
  go_wp2
  all_goals go_ret2
  all_goals refine ⟨(long_pair _ _ _ ?_).symm, rfl⟩
  all_goals simp_all [Num.long]

theorem int_pair (op a b : Int) (p : Int × Bool) (h : Num.long op (wrap32 a) (wrap32 b) = p) : Num.int op a b = (wrap32 p.1, p.2) := by subst h; rfl

set_option maxHeartbeats 1000000 in
theorem int (op a b : Int) (w : World) : Calls Try.prog 15 #[.int .i64 op, .int .i64 a, .int .i64 b] w fun e w' => e = .returned (.tuple #[.int .i64 (Num.int op a b).1, .bool (Num.int op a b).2]) ∧ w = w' := by
  have ha := wrap32_ok a
  go_enter Try.func15, Try.ntmps15
  go_wp2_with (first | (go_at_call 14; refine (narrow _ _).mono ?_; rintro e w' ⟨rfl, rfl⟩) | (go_at_call 13; refine (long _ _ _ _ ha).mono ?_; rintro e w' ⟨rfl, rfl⟩))
  go_ret2
  exact ⟨rfl, rfl⟩

set_option maxHeartbeats 1000000 in
theorem cmp (a b : Int) (w : World) : Calls Try.prog 24 #[.int .i64 a, .int .i64 b] w fun e w' => e = .returned (.int .i64 (Num.cmp a b)) ∧ w = w' := by
  by_cases h1 : a < b
  · go_enter Try.func24, Try.ntmps24
    go_wp2
    all_goals go_ret
    all_goals exact ⟨ret_int (by simp [Num.cmp, h1]), rfl⟩
  by_cases h2 : b < a
  · go_enter Try.func24, Try.ntmps24
    go_wp2
    all_goals go_ret
    all_goals exact ⟨ret_int (by simp [Num.cmp, h1, h2]), rfl⟩
  · have e : Num.cmp a b = 0 := by simp [Num.cmp, h1, h2]
    rw [e]
    go_enter Try.func24, Try.ntmps24
    go_wp2
    all_goals go_ret
    all_goals exact ⟨rfl, rfl⟩

theorem holds1 (is : Bool) (c cond : Int) (p : Addr) (w : World) (h : w.cell? p = some (.int .i64 cond)) : Calls Try.prog 45 #[.bool is, .int .i64 c, .pointer (some p)] w fun e w' => e = .returned (.bool (is && (cond == c))) ∧ w = w' := by
  cases is
  all_goals
    go_enter Try.func45, Try.ntmps45
    go_wp2
    all_goals go_ret
    all_goals exact ⟨ret_bool (by simp), rfl⟩

theorem holds_neg (c a : Int) (h : a < 0) : Num.holds c a = ((false && c == 1) || ((true && c == 2) || ((true && c == 3) || (false && c == 4)))) := by
  unfold Num.holds
  by_cases h1 : c = 1
  · subst h1; simp; omega
  by_cases h2 : c = 2
  · subst h2; simp [h]
  by_cases h3 : c = 3
  · subst h3; simp; omega
  by_cases h4 : c = 4
  · subst h4; simp; omega
  simp [h1, h2, h3, h4]
theorem holds_pos (c a : Int) (h : 0 < a) : Num.holds c a = ((false && c == 1) || ((false && c == 2) || ((true && c == 3) || (true && c == 4)))) := by
  unfold Num.holds
  by_cases h1 : c = 1
  · subst h1; simp; omega
  by_cases h2 : c = 2
  · subst h2; simp; omega
  by_cases h3 : c = 3
  · subst h3; simp; omega
  by_cases h4 : c = 4
  · subst h4; simp; omega
  simp [h1, h2, h3, h4]

set_option maxHeartbeats 1000000 in
theorem holds (c a : Int) (w : World) : Calls Try.prog 25 #[.int .i64 c, .int .i64 a] w fun e w' => e = .returned (.bool (Num.holds c a)) ∧ Below w.heap.size w w' := by
  have hmf : ∀ (fn : Fn) (first cap : Array Value) (w : World), (Instr.makeFunc fn first cap).run Try.prog w = .ok (.func fn first cap) w := fun _ _ _ _ => rfl
  rcases Int.lt_trichotomy a 0 with h | h | h
  · have n1 : ¬ 0 < a := by omega
    have q0 : (a == 0) = false := by simp; omega
    have q1 : (a != 0) = true := by simp; omega
    go_enter Try.func25, Try.ntmps25
    go_wp2_with (go_at_call 45; refine (holds1 _ _ c _ _ (by simp)).mono ?_; rintro e w' ⟨rfl, rfl⟩)
    all_goals go_ret
    all_goals go_tidy
    all_goals refine ⟨ret_bool ?_, (Below.refl _ _).alloc (Nat.le_refl _) _⟩
    all_goals rw [holds_neg c a h]
    all_goals simp_all
    all_goals (intros; omega)
  · subst h
    go_enter Try.func25, Try.ntmps25
    go_wp2_with (go_at_call 45; refine (holds1 _ _ c _ _ (by simp)).mono ?_; rintro e w' ⟨rfl, rfl⟩)
    all_goals go_ret
    all_goals go_tidy
    all_goals refine ⟨ret_bool ?_, (Below.refl _ _).alloc (Nat.le_refl _) _⟩
    all_goals simp_all [Num.holds]
  · have n1 : ¬ a < 0 := by omega
    have q0 : (a == 0) = false := by simp; omega
    have q1 : (a != 0) = true := by simp; omega
    go_enter Try.func25, Try.ntmps25
    go_wp2_with (go_at_call 45; refine (holds1 _ _ c _ _ (by simp)).mono ?_; rintro e w' ⟨rfl, rfl⟩)
    all_goals go_ret
    all_goals go_tidy
    all_goals refine ⟨ret_bool ?_, (Below.refl _ _).alloc (Nat.le_refl _) _⟩
    all_goals rw [holds_pos c a h]
    all_goals simp_all
    all_goals simp [show ¬ a < 0 by omega]
end NumW
end Go.Proofs.Ytncmhenfgbcihaa
