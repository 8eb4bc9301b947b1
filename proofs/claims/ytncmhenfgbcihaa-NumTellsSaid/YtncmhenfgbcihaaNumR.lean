/- The walks through the reference of numbers. -/
import Derived.Test.YtncmhenfgbcihaaNumW
import Derived.Lib.Hide
namespace Go.Proofs.Ytncmhenfgbcihaa
open Go.RowKit
set_option linter.unusedSimpArgs false
set_option linter.unusedVariables false
namespace NumW
open Num

theorem rnarrow (a : Int) (w : World) : Calls Try.prog 26 #[.int .i64 a] w fun e w' => e = .returned (.int .i64 (wrap32 a)) ∧ w = w' := by
  rw [← refNarrow_eq]
  have b1 : -4294967296 < a.tmod 4294967296 := by have := Int.lt_tmod_of_pos a (show (0:Int) < 4294967296 by omega); omega
  have b2 : a.tmod 4294967296 < 4294967296 := Int.tmod_lt_of_pos a (by omega)
  have e : refNarrow a = if 2147483648 ≤ (if a.tmod 4294967296 < 0 then a.tmod 4294967296 + 4294967296 else a.tmod 4294967296) then (if a.tmod 4294967296 < 0 then a.tmod 4294967296 + 4294967296 else a.tmod 4294967296) - 4294967296 else (if a.tmod 4294967296 < 0 then a.tmod 4294967296 + 4294967296 else a.tmod 4294967296) := rfl
  have E := Lib.hid e
  clear e
  go_enter Try.func26, Try.ntmps26
  go_wp2
  all_goals go_ret
  all_goals go_tidy
  all_goals refine ⟨ret_int ?_, rfl⟩
  all_goals rw [E.out]
  all_goals (repeat' split)
  all_goals first | omega | (show wrap64 _ = _; unfold wrap64 at *; omega) | (show _ = _; unfold wrap64 at *; omega)

theorem rcmp (a b : Int) (w : World) : Calls Try.prog 27 #[.int .i64 a, .int .i64 b] w fun e w' => e = .returned (.int .i64 (Num.cmp a b)) ∧ w = w' := by
  go_enter Try.func27, Try.ntmps27
  go_wp2
  all_goals go_ret
  all_goals go_tidy
  all_goals refine ⟨ret_int ?_, rfl⟩
  all_goals unfold Num.cmp
  all_goals (repeat' split)
  all_goals omega

theorem rholds (c a : Int) (w : World) : Calls Try.prog 28 #[.int .i64 c, .int .i64 a] w fun e w' => e = .returned (.bool (Num.holds c a)) ∧ w = w' := by
  go_enter Try.func28, Try.ntmps28
  go_wp2
  all_goals go_ret
  all_goals go_tidy
  all_goals refine ⟨ret_bool ?_, rfl⟩
  all_goals simp_all [Num.holds]
  all_goals rfl

theorem tdiv2 (n : Int) : (n - n % 2).tdiv 2 = (n - n % 2) / 2 := Int.tdiv_eq_ediv_of_dvd (by omega)
theorem tmod2 (n : Int) : (n.tmod 2 < 0 ∧ n.tmod 2 + 2 = n % 2) ∨ (0 ≤ n.tmod 2 ∧ n.tmod 2 = n % 2) := by
  by_cases h : 0 ≤ n
  · rw [Int.tmod_eq_emod_of_nonneg h]; right; omega
  · have e : n.tmod 2 = -((-n) % 2) := by
      rw [← Int.tmod_eq_emod_of_nonneg (show 0 ≤ -n by omega), Int.neg_tmod, Int.neg_neg]
    rw [e]; omega
theorem tmod2_ne (m : Int) : (m.tmod 2 != 0) = decide (m % 2 = 1) := by
  rcases tmod2 m with ⟨k1, k2⟩ | ⟨k1, k2⟩
  · have k3 : m.tmod 2 ≠ 0 := fun e => by rw [e] at k1; omega
    have k4 : m % 2 = 1 := by
      have : m % 2 = 0 ∨ m % 2 = 1 := by omega
      rcases this with h | h
      · exfalso; rw [h] at k2
        have : m.tmod 2 = -2 := by omega
        have := Int.lt_tmod_of_pos m (show (0:Int) < 2 by omega)
        omega
      · exact h
    rw [decide_eq_true k4, bne_iff_ne]; exact k3
  · rw [k2]
    have : m % 2 = 0 ∨ m % 2 = 1 := by omega
    rcases this with h | h <;> rw [h] <;> rfl
theorem bitN_succ (k : Nat) (n : Int) : bitN (k + 1) n = (bitN k n - bitN k n % 2) / 2 := by
  have hp : (0:Int) ≤ 2 ^ k := Int.le_of_lt (Int.pow_pos (by omega))
  rw [bitN_eq, bitN_eq, Int.pow_succ, ← Int.ediv_ediv_of_nonneg hp]
  generalize n / 2 ^ k = m
  omega

set_option maxHeartbeats 1000000 in
theorem rbit (n : Int) (k : Nat) (w : World) (hn : Ok n) (hk : k ≤ 64) (v : Bool) (hv : Num.bit n k = v) : Calls Try.prog 81 #[.int .i64 n, .int .i64 k] w fun e w' => e = .returned (.bool v) ∧ w = w' := by
  have HV : Hid (Num.bit n k = v) := hv
  clear hv
  go_enter Try.func81, Try.ntmps81
  go_wp2
  go_loop [0, 5] (fun m i => ∃ j : Nat, j ≤ k ∧ i = .int .i64 j ∧ m = .int .i64 (bitN j n)) (fun _ i => k - (intOf i).toNat)
  case atStart => exact ⟨0, Nat.zero_le _, rfl, rfl⟩
  case round =>
    obtain ⟨j, hj, rfl, rfl⟩ := hrel
    have hb := bitN_ok j hn
    unfold Ok at hb
    have hs := Lib.hid (bitN_succ j n)
    have HB : Hid (Num.bit n k = decide (bitN k n % 2 = 1)) := rfl
    have t2 := tmod2 (bitN j n)
    generalize hm : bitN j n = m at *
    have hq := tdiv2 m
    have HM := Lib.hid hm
    clear hm
    by_cases hlt : j < k
    · rcases t2 with ⟨t2, t3⟩ | ⟨t2, t3⟩
      all_goals
        go_wp2
        go_round
        case rel => exact ⟨j + 1, by omega, by go_num, by rw [hs.out]⟩
        case measure => simp [intOf]; omega
    · obtain rfl : j = k := by omega
      have key : (m.tmod 2 != 0) = v := by
        rw [← HV.out, HB.out, HM.out]; exact tmod2_ne m
      have KEY := Lib.hid key
      clear key
      go_wp2
      all_goals go_ret
      exact ⟨ret_bool KEY.out, rfl⟩

theorem wrap_add (x y : Int) : wrap64 (wrap64 x + wrap64 y) = wrap64 (x + y) := by unfold wrap64; omega
theorem pow_step (j : Nat) : wrap64 (wrap64 (2 ^ j) + wrap64 (2 ^ j)) = wrap64 (2 ^ (j + 1)) := by rw [wrap_add, Int.pow_succ]; congr 1; omega
theorem sum_yes (op a b : Int) (j : Nat) (x y : Bool) (hx : Num.bit a j = x) (hy : Num.bit b j = y) (h : opBit op x y = true) : wrap64 (wrap64 (sumN op a b j) + wrap64 (2 ^ j)) = wrap64 (sumN op a b (j + 1)) := by
  rw [wrap_add, sumN, hx, hy, h, if_pos rfl]
theorem sum_no (op a b : Int) (j : Nat) (x y : Bool) (hx : Num.bit a j = x) (hy : Num.bit b j = y) (h : opBit op x y = false) : wrap64 (sumN op a b j) = wrap64 (sumN op a b (j + 1)) := by
  rw [sumN, hx, hy, h, if_neg (by simp)]; simp

set_option maxHeartbeats 4000000 in
theorem rbits (op a b : Int) (w : World) (ha : Ok a) (hb : Ok b) (o6 o7 o8 : Bool) (h6 : (op == 6) = o6) (h7 : (op == 7) = o7) (h8 : (op == 8) = o8) (hop : (o6 = true ∧ o7 = false ∧ o8 = false) ∨ (o6 = false ∧ o7 = true ∧ o8 = false) ∨ (o6 = false ∧ o7 = false ∧ o8 = true)) : Calls Try.prog 43 #[.int .i64 op, .int .i64 a, .int .i64 b] w fun e w' => e = .returned (.int .i64 (refBits op a b)) ∧ w = w' := by
  have OB : ∀ x y, Hid (opBit op x y = ((o6 && x && y) || (o7 && (x || y)) || (o8 && (x != y)))) := by
    intro x y; rw [← h6, ← h7, ← h8]
    show _ = _
    simp [opBit, Bool.beq_eq_decide_eq]
  rcases hop with ⟨rfl, rfl, rfl⟩ | ⟨rfl, rfl, rfl⟩ | ⟨rfl, rfl, rfl⟩
  all_goals
    go_enter Try.func43, Try.ntmps43
    go_wp2
    go_loop [7, 8, 9] (fun s p i => ∃ j : Nat, j ≤ 64 ∧ i = .int .i64 j ∧ s = .int .i64 (wrap64 (sumN op a b j)) ∧ p = .int .i64 (wrap64 (2 ^ j))) (fun _ _ i => 64 - (intOf i).toNat)
    case atStart => exact ⟨0, Nat.zero_le _, rfl, by simp [sumN, wrap64], by simp [wrap64]⟩
    case round =>
      obtain ⟨j, hj, rfl, rfl, rfl⟩ := hrel
      by_cases hlt : j < 64
      · obtain ⟨x, hx⟩ : ∃ x, Hid (Num.bit a j = x) := ⟨_, rfl⟩
        obtain ⟨y, hy⟩ : ∃ y, Hid (Num.bit b j = y) := ⟨_, rfl⟩
        have hob := OB x y
        clear OB
        cases x <;> cases y
        all_goals
          go_wp2_with fail
          refine (rbit a j _ ha (by omega) _ hx.out).mono ?_
          rintro e w' ⟨rfl, rfl⟩
          go_wp2_with fail
          refine (rbit b j _ hb (by omega) _ hy.out).mono ?_
          rintro e w' ⟨rfl, rfl⟩
          go_wp2
          go_round
          case rel =>
            refine ⟨j + 1, by omega, by go_num, ?_, by rw [pow_step]⟩
            first
              | rw [sum_yes op a b j _ _ hx.out hy.out hob.out]
              | rw [sum_no op a b j _ _ hx.out hy.out hob.out]
          case measure => simp [intOf]; omega
      · obtain rfl : j = 64 := by omega
        go_wp2
        go_ret
        exact ⟨rfl, rfl⟩


set_option maxHeartbeats 4000000 in
theorem rlong (op a b : Int) (w : World) (ha : Ok a) (hb : Ok b) : Calls Try.prog 23 #[.int .i64 op, .int .i64 a, .int .i64 b] w fun e w' => e = .returned (.tuple #[.int .i64 (Num.long op a b).1, .bool (Num.long op a b).2]) ∧ w = w' := by
  rw [← refLong_eq op a b ha]
  by_cases h6 : op = 6 ∨ op = 7 ∨ op = 8
  · have q1 : (op == 1) = false := by simp; omega
    have q2 : (op == 2) = false := by simp; omega
    have q3 : (op == 3) = false := by simp; omega
    have E : Hid (refLong op a b = (refBits op a b, true)) := by
      show _ = _
      unfold refLong
      rw [if_neg (by omega), if_neg (by omega), if_neg (by omega), if_pos h6]
    have hc := fun w => rbits op a b w ha hb (op == 6) (op == 7) (op == 8) rfl rfl rfl (by rcases h6 with rfl | rfl | rfl <;> simp)
    have HC := Lib.hid hc
    clear hc
    go_enter Try.func23, Try.ntmps23
    go_wp2_with (go_at_call 43; refine (HC.out _).mono ?_; rintro e w' ⟨rfl, rfl⟩)
    all_goals first | (exfalso; simp_all; done) | skip
    all_goals go_ret2
    all_goals exact ⟨(long_pair _ _ _ E.out).symm, rfl⟩
  have h6' : ¬ op = 6 := by omega
  have h7' : ¬ op = 7 := by omega
  have h8' : ¬ op = 8 := by omega
  have q6 : (op == 6) = false := by simpa using h6'
  have q7 : (op == 7) = false := by simpa using h7'
  have q8 : (op == 8) = false := by simpa using h8'
  clear h6
  by_cases h0 : b = 0
  · subst h0
    go_enter Try.func23, Try.ntmps23
    go_wp2
    all_goals go_ret2
    all_goals refine ⟨(long_pair _ _ _ ?_).symm, rfl⟩
    all_goals go_tidy
    all_goals simp_all [refLong, wrap64_zero]
  by_cases h1 : b = -1
  · subst h1
    go_enter Try.func23, Try.ntmps23
    go_wp2
    all_goals go_ret2
    all_goals refine ⟨(long_pair _ _ _ ?_).symm, rfl⟩
    all_goals go_tidy
    all_goals simp_all [refLong]
  have q0 : (b == 0) = false := by simpa using h0
  have q1 : (b != -1) = true := by simpa using h1
  have t1 := wrap64_id (tdiv_ok ha h1)
  go_enter Try.func23, Try.ntmps23
  go_wp2
  all_goals go_ret2
  all_goals refine ⟨(long_pair _ _ _ ?_).symm, rfl⟩
  all_goals go_tidy
  all_goals simp_all [refLong]

set_option maxHeartbeats 1000000 in
theorem rint (op a b : Int) (w : World) (ha : Ok a) (hb : Ok b) : Calls Try.prog 22 #[.int .i64 op, .int .i64 a, .int .i64 b] w fun e w' => e = .returned (.tuple #[.int .i64 (Num.int op a b).1, .bool (Num.int op a b).2]) ∧ w = w' := by
  have h1 := wrap32_ok a
  have h2 := wrap32_ok b
  have h3 := long_ok op (wrap32 a) (wrap32 b) h1
  go_enter Try.func22, Try.ntmps22
  go_wp2_with (first | (go_at_call 26; refine (rnarrow _ _).mono ?_; rintro e w' ⟨rfl, rfl⟩) | (go_at_call 23; refine (rlong _ _ _ _ h1 h2).mono ?_; rintro e w' ⟨rfl, rfl⟩))
  go_ret2
  exact ⟨rfl, rfl⟩

end NumW
end Go.Proofs.Ytncmhenfgbcihaa
