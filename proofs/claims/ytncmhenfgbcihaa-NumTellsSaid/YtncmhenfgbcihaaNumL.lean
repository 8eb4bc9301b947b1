/- The walks through the two laws of numbers. -/
import Derived.Test.YtncmhenfgbcihaaNumR
import Derived.Lib.Hide
namespace Go.Proofs.Ytncmhenfgbcihaa
open Go.RowKit
set_option linter.unusedSimpArgs false
set_option linter.unusedVariables false
namespace NumW
open Num

set_option maxRecDepth 100000 in
set_option maxHeartbeats 4000000 in
theorem numTells (op a b : Int) (w : World) (_ho : Ok op) (ha : Ok a) (hb : Ok b) : Calls Try.prog 6 #[.int .i64 op, .int .i64 a, .int .i64 b] w fun e w' => e = .returned (.bool true) ∧ Below w.heap.size w w' := by
  go_enter Try.func6, Try.ntmps6
  go_wp2_with (first
    | (go_at_call 15; refine (int _ _ _ _).mono ?_; rintro e w' ⟨rfl, rfl⟩)
    | (go_at_call 13; refine (long _ _ _ _ ha).mono ?_; rintro e w' ⟨rfl, rfl⟩)
    | (go_at_call 22; refine (rint _ _ _ _ ha hb).mono ?_; rintro e w' ⟨rfl, rfl⟩)
    | (go_at_call 23; refine (rlong _ _ _ _ ha hb).mono ?_; rintro e w' ⟨rfl, rfl⟩)
    | (go_at_call 14; refine (narrow _ _).mono ?_; rintro e w' ⟨rfl, rfl⟩)
    | (go_at_call 24; refine (cmp _ _ _).mono ?_; rintro e w' ⟨rfl, rfl⟩)
    | (go_at_call 25; refine (holds _ _ _).mono ?_; rintro e w1 ⟨rfl, hg⟩)
    | (go_at_call 26; refine (rnarrow _ _).mono ?_; rintro e w' ⟨rfl, rfl⟩)
    | (go_at_call 27; refine (rcmp _ _ _).mono ?_; rintro e w' ⟨rfl, rfl⟩)
    | (go_at_call 28; refine (rholds _ _ _).mono ?_; rintro e w' ⟨rfl, rfl⟩))
  all_goals go_ret
  all_goals exact ⟨rfl, hg⟩

/-! ### what is divided -/
theorem n_narrow (a : Int) : wrap32 (wrap32 a) = wrap32 a := by unfold wrap32; omega
theorem n_range (a : Int) : -2147483648 ≤ wrap32 a ∧ wrap32 a ≤ 2147483647 := by unfold wrap32; omega
theorem n_rest (a : Int) (ha : Ok a) : (wrap64 (a - wrap32 a)).tmod 4294967296 = 0 := by
  have : (4294967296 : Int) ∣ wrap64 (a - wrap32 a) := by unfold wrap64 wrap32; unfold Ok at ha; omega
  exact Int.tmod_eq_zero_of_dvd this
theorem d_zero (a : Int) : Num.long 4 a 0 = (0, false) ∧ Num.long 5 a 0 = (0, false) := by simp [Num.long]
theorem d_is (a b : Int) (h : b ≠ 0) : (Num.long 4 a b).2 = true ∧ (Num.long 5 a b).2 = true := by
  simp [Num.long, h]; constructor <;> split <;> rfl
theorem d_sum (a b : Int) (ha : Ok a) (h : b ≠ 0) : wrap64 (wrap64 ((Num.long 4 a b).1 * b) + (Num.long 5 a b).1) = a := by
  have e : wrap64 (wrap64 ((Num.long 4 a b).1 * b) + (Num.long 5 a b).1) = wrap64 ((Num.long 4 a b).1 * b + (Num.long 5 a b).1) := by unfold wrap64; omega
  rw [e]
  by_cases h1 : b = -1
  · subst h1; unfold Ok at ha; simp [Num.long, wrap64]; omega
  · have : (Num.long 4 a b).1 = a.tdiv b ∧ (Num.long 5 a b).1 = a.tmod b := by simp [Num.long, h, h1]
    rw [this.1, this.2, Int.tdiv_mul_add_tmod, wrap64_id ha]
theorem d_sign (a b : Int) (h : b ≠ 0) : (Num.long 5 a b).1 = 0 ∨ (decide ((Num.long 5 a b).1 < 0) = decide (a < 0)) := by
  by_cases h1 : b = -1
  · left; subst h1; simp [Num.long]
  · have e : (Num.long 5 a b).1 = a.tmod b := by simp [Num.long, h, h1]
    rw [e]
    by_cases h0 : a.tmod b = 0
    · exact .inl h0
    · right
      by_cases ha : 0 ≤ a
      · have := Int.tmod_nonneg b ha
        rw [decide_eq_false (by omega), decide_eq_false (by omega)]
      · have : 0 ≤ (-a).tmod b := Int.tmod_nonneg b (by omega)
        rw [Int.neg_tmod] at this
        rw [decide_eq_true (by omega), decide_eq_true (by omega)]

set_option maxRecDepth 100000 in
set_option maxHeartbeats 4000000 in
theorem numDivides (a b : Int) (w : World) (ha : Ok a) (hb : Ok b) : Calls Try.prog 3 #[.int .i64 a, .int .i64 b] w fun e w' => e = .returned (.bool true) ∧ Below w.heap.size w w' := by
  have e1 := n_narrow a
  have e2 := (n_range a).1
  have e3 := (n_range a).2
  have e4 := n_rest a ha
  have e5 : (Num.int 1 a b).2 = true := rfl
  have e6 : wrap32 (Num.int 1 a b).1 = (Num.int 1 a b).1 := n_narrow _
  have q1 : ¬ wrap32 a < -2147483648 := by omega
  have q2 : ¬ 2147483647 < wrap32 a := by omega
  by_cases h : b = 0
  · subst h
    have e7 := (d_zero a).1
    have e8 := (d_zero a).2
    go_enter Try.func3, Try.ntmps3
    go_wp2_with (first
      | (go_at_call 15; refine (int _ _ _ _).mono ?_; rintro e w' ⟨rfl, rfl⟩)
      | (go_at_call 13; refine (long _ _ _ _ ha).mono ?_; rintro e w' ⟨rfl, rfl⟩)
      | (go_at_call 14; refine (narrow _ _).mono ?_; rintro e w' ⟨rfl, rfl⟩))
    all_goals go_ret
    all_goals exact ⟨rfl, Below.refl _ _⟩
  · have q : (b == 0) = false := by simpa using h
    have e7 := (d_is a b h).1
    have e8 := (d_is a b h).2
    have e9 := d_sum a b ha h
    rcases d_sign a b h with e10 | e10
    all_goals
      go_enter Try.func3, Try.ntmps3
      go_wp2_with (first
        | (go_at_call 15; refine (int _ _ _ _).mono ?_; rintro e w' ⟨rfl, rfl⟩)
        | (go_at_call 13; refine (long _ _ _ _ ha).mono ?_; rintro e w' ⟨rfl, rfl⟩)
        | (go_at_call 14; refine (narrow _ _).mono ?_; rintro e w' ⟨rfl, rfl⟩))
      all_goals go_ret
      all_goals refine ⟨ret_bool ?_, Below.refl _ _⟩
      all_goals go_tidy
      all_goals first
        | rfl
        | (show _ = true
           simp
           have e11 := e9
           rw [e10, Int.add_zero] at e11
           contradiction)
end NumW
end Go.Proofs.Ytncmhenfgbcihaa
