/- The walks through crosswalkref3. -/
import Derived.Test.YtncmhenfgbcihaaFormW
import Derived.Test.YtncmhenfgbcihaaHierR
namespace Go.Proofs.Ytncmhenfgbcihaa
open Go.RowKit
set_option linter.unusedSimpArgs false
set_option linter.unusedVariables false
namespace FormR
open Num Rd D HierW FormW

/-- from one to another one -/
def within (n lo hi : Int) : Bool := decide (lo ≤ n ∧ n ≤ hi)
theorem within_rng (n lo hi : Int) : within n lo hi = Form.rng n lo (hi + 1) := by
  unfold within Form.rng
  apply decide_eq_decide.2
  omega

theorem wi (n lo hi : Int) (w : World) : Calls Try.prog 48 #[.int .i64 n, .int .i64 lo, .int .i64 hi] w fun e w' => e = .returned (.bool (within n lo hi)) ∧ w = w' := by
  go_enter Try.func48, Try.ntmps48
  go_wp2
  all_goals go_ret
  all_goals go_tidy
  all_goals refine ⟨ret_bool ?_, rfl⟩
  all_goals simp_all [within]
  all_goals (intros; omega)
theorem wiV (n lo hi : Int) (p : Bool) (w : World) (hp : within n lo hi = p) : Calls Try.prog 48 #[.int .i64 n, .int .i64 lo, .int .i64 hi] w fun e w' => e = .returned (.bool p) ∧ w = w' := by
  subst hp; exact wi n lo hi w

set_option maxHeartbeats 1000000 in
theorem slots (v : Value) (l : List Ty) (w : World) (h : Ts w v l) (hs : l.length ≤ 1000000000) : Calls Try.prog 50 #[v] w fun e w' => e = .returned (.int .i64 (Form.slots l : Nat)) ∧ w = w' := by
  obtain ⟨a, cap, rfl, hlc, hcc, hel⟩ := h
  go_enter Try.func50, Try.ntmps50
  go_wp2
  go_loopw [3, 4] (fun n i wr => ∃ k : Nat, k ≤ l.length ∧ i = .int .i64 k ∧ n = .int .i64 ((Form.slots (l.take k) + (l.length - k) : Nat) : Int) ∧ w = wr) (fun _ i _ => l.length - (intOf i).toNat)
  case atStart => exact ⟨0, by omega, rfl, by simp [Form.slots], rfl⟩
  case round =>
    obtain ⟨k, hk, rfl, rfl, rfl⟩ := hrel
    have hle := Form.slots_le (l.take k)
    have hlt' : (l.take k).length ≤ k := List.length_take_le _ _
    by_cases hlt : k < l.length
    · obtain ⟨b, o, rfl, hb, he⟩ := hel k hlt
      have hst := Lib.hid (Form.slots_take hlt)
      obtain ⟨t, ht⟩ := at_of hlt
      rw [ht.out] at he hst
      obtain ⟨g1, g2, _, _⟩ := he
      obtain ⟨kd, c⟩ := t
      simp only at g1 g2
      obtain ⟨S, hS⟩ : ∃ S, Hid (Form.slots (l.take k) = S) := ⟨_, rfl⟩
      rw [hS.out] at hst hle ⊢
      obtain ⟨R, hR⟩ : ∃ R, Hid (S + (l.length - k) = R) := ⟨_, rfl⟩
      rw [hR.out]
      have hR2 : (R : Int) ≤ 3000000000 := by have := hR.out; omega
      clear hel hlt'
      by_cases q : kd = 2
      · subst q
        go_wp2
        go_roundw
        case rel => exact ⟨k + 1, by omega, by go_num, by rw [hst.out]; have := hR.out; simp; omega, trivial⟩
        case measure => simp [intOf]; omega
      · have q' : (kd == 2) = false := by simpa using q
        go_wp2
        go_roundw
        case rel => exact ⟨k + 1, by omega, by go_num, by rw [hst.out, if_neg q]; have := hR.out; simp; omega, trivial⟩
        case measure => simp [intOf]; omega
    · have hst := Lib.hid (slots_end hlt hk)
      clear hel
      go_wp2
      go_ret
      exact ⟨ret_int (by rw [hst.out]; simp; omega), rfl⟩
theorem slotsV (v : Value) (l : List Ty) (S : Nat) (w : World) (h : Ts w v l) (hs : l.length ≤ 1000000000) (hS : Form.slots l = S) : Calls Try.prog 50 #[v] w fun e w' => e = .returned (.int .i64 S) ∧ w = w' := by
  subst hS; exact slots v l w h hs
end FormR
end Go.Proofs.Ytncmhenfgbcihaa
