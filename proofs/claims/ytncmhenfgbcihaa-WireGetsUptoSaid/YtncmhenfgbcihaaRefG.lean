/- The walks through crosswalkref6: named, reg. -/
import Derived.Test.YtncmhenfgbcihaaRformB
import Derived.Test.YtncmhenfgbcihaaFormR
namespace Go.Proofs.Ytncmhenfgbcihaa
open Go.RowKit
set_option linter.unusedSimpArgs false
set_option linter.unusedVariables false
namespace RefG
open Num Rd D HierW FormW FormR

theorem ret_eq {v v' : Value} (h : v = v') : Ending.returned v = .returned v' := by rw [h]

/-- what 'named' hands back -/
def Named (w : World) (op : Int) (e : Ending) (w' : World) : Prop :=
  Below w.heap.size w w' ∧ ((Rform.kinds op = none ∧ e = .returned (.tuple #[.slice none 0 0, .bool false])) ∨
    ∃ k0 k1 k2 n, Rform.kinds op = some (k0, k1, k2) ∧ e = .returned (.tuple #[.slice (some ⟨n, 0, none⟩) 3 3, .bool true]) ∧ w.heap.size ≤ n ∧
      w'.cell? ⟨n, 0, none⟩ = some (.int .i64 k0) ∧ w'.cell? ⟨n, 1, none⟩ = some (.int .i64 k1) ∧ w'.cell? ⟨n, 2, none⟩ = some (.int .i64 k2))
theorem named_mk {w w' : World} {op k0 k1 k2 : Int} {n : Nat} {e : Ending} (hb : Below w.heap.size w w') (hk : Rform.kinds op = some (k0, k1, k2)) (he : e = .returned (.tuple #[.slice (some ⟨n, 0, none⟩) 3 3, .bool true])) (hn : w.heap.size ≤ n)
    (h0 : w'.cell? ⟨n, 0, none⟩ = some (.int .i64 k0)) (h1 : w'.cell? ⟨n, 1, none⟩ = some (.int .i64 k1)) (h2 : w'.cell? ⟨n, 2, none⟩ = some (.int .i64 k2)) : Named w op e w' := ⟨hb, .inr ⟨k0, k1, k2, n, hk, he, hn, h0, h1, h2⟩⟩
theorem named1 (w : World) : Calls Try.prog 89 #[.int .i64 1] w (Named w 1) := by
  go_enter Try.func89, Try.ntmps89
  go_wp2
  go_ret2
  refine named_mk (n := w.heap.size) (k0 := 1) (k1 := 0) (k2 := 0) (by repeat' (first | with_reducible exact Below.refl _ _ | with_reducible assumption | exact Nat.le_refl _ | with_reducible refine Go.Proofs.Ytncmhenfgbcihaa.Rd.below_drewN ?_ _ | with_reducible refine Below.alloc ?_ ?_ _ | with_reducible refine Below.setCell ?_ ?_ _ | with_reducible refine Below.drew ?_ | omega | (simp; omega) | (simp; done))) (by decide) rfl (by omega) ?_ ?_ ?_ <;> go_simp
theorem named2 (w : World) : Calls Try.prog 89 #[.int .i64 2] w (Named w 2) := by
  go_enter Try.func89, Try.ntmps89
  go_wp2
  go_ret2
  refine named_mk (n := w.heap.size) (k0 := 2) (k1 := 0) (k2 := 0) (by repeat' (first | with_reducible exact Below.refl _ _ | with_reducible assumption | exact Nat.le_refl _ | with_reducible refine Go.Proofs.Ytncmhenfgbcihaa.Rd.below_drewN ?_ _ | with_reducible refine Below.alloc ?_ ?_ _ | with_reducible refine Below.setCell ?_ ?_ _ | with_reducible refine Below.drew ?_ | omega | (simp; omega) | (simp; done))) (by decide) rfl (by omega) ?_ ?_ ?_ <;> go_simp
theorem named3 (w : World) : Calls Try.prog 89 #[.int .i64 3] w (Named w 3) := by
  go_enter Try.func89, Try.ntmps89
  go_wp2
  go_ret2
  refine named_mk (n := w.heap.size) (k0 := 3) (k1 := 0) (k2 := 0) (by repeat' (first | with_reducible exact Below.refl _ _ | with_reducible assumption | exact Nat.le_refl _ | with_reducible refine Go.Proofs.Ytncmhenfgbcihaa.Rd.below_drewN ?_ _ | with_reducible refine Below.alloc ?_ ?_ _ | with_reducible refine Below.setCell ?_ ?_ _ | with_reducible refine Below.drew ?_ | omega | (simp; omega) | (simp; done))) (by decide) rfl (by omega) ?_ ?_ ?_ <;> go_simp
theorem named4 (w : World) : Calls Try.prog 89 #[.int .i64 4] w (Named w 4) := by
  go_enter Try.func89, Try.ntmps89
  go_wp2
  go_ret2
  refine named_mk (n := w.heap.size) (k0 := -1) (k1 := -1) (k2 := -1) (by repeat' (first | with_reducible exact Below.refl _ _ | with_reducible assumption | exact Nat.le_refl _ | with_reducible refine Go.Proofs.Ytncmhenfgbcihaa.Rd.below_drewN ?_ _ | with_reducible refine Below.alloc ?_ ?_ _ | with_reducible refine Below.setCell ?_ ?_ _ | with_reducible refine Below.drew ?_ | omega | (simp; omega) | (simp; done))) (by decide) rfl (by omega) ?_ ?_ ?_ <;> go_simp
theorem named5 (w : World) : Calls Try.prog 89 #[.int .i64 5] w (Named w 5) := by
  go_enter Try.func89, Try.ntmps89
  go_wp2
  go_ret2
  refine named_mk (n := w.heap.size) (k0 := 1) (k1 := 1) (k2 := 1) (by repeat' (first | with_reducible exact Below.refl _ _ | with_reducible assumption | exact Nat.le_refl _ | with_reducible refine Go.Proofs.Ytncmhenfgbcihaa.Rd.below_drewN ?_ _ | with_reducible refine Below.alloc ?_ ?_ _ | with_reducible refine Below.setCell ?_ ?_ _ | with_reducible refine Below.drew ?_ | omega | (simp; omega) | (simp; done))) (by decide) rfl (by omega) ?_ ?_ ?_ <;> go_simp
theorem named6 (w : World) : Calls Try.prog 89 #[.int .i64 6] w (Named w 6) := by
  go_enter Try.func89, Try.ntmps89
  go_wp2
  go_ret2
  refine named_mk (n := w.heap.size) (k0 := 2) (k1 := 2) (k2 := 2) (by repeat' (first | with_reducible exact Below.refl _ _ | with_reducible assumption | exact Nat.le_refl _ | with_reducible refine Go.Proofs.Ytncmhenfgbcihaa.Rd.below_drewN ?_ _ | with_reducible refine Below.alloc ?_ ?_ _ | with_reducible refine Below.setCell ?_ ?_ _ | with_reducible refine Below.drew ?_ | omega | (simp; omega) | (simp; done))) (by decide) rfl (by omega) ?_ ?_ ?_ <;> go_simp
theorem named7 (w : World) : Calls Try.prog 89 #[.int .i64 7] w (Named w 7) := by
  go_enter Try.func89, Try.ntmps89
  go_wp2
  go_ret2
  refine named_mk (n := w.heap.size) (k0 := 2) (k1 := 1) (k2 := 0) (by repeat' (first | with_reducible exact Below.refl _ _ | with_reducible assumption | exact Nat.le_refl _ | with_reducible refine Go.Proofs.Ytncmhenfgbcihaa.Rd.below_drewN ?_ _ | with_reducible refine Below.alloc ?_ ?_ _ | with_reducible refine Below.setCell ?_ ?_ _ | with_reducible refine Below.drew ?_ | omega | (simp; omega) | (simp; done))) (by decide) rfl (by omega) ?_ ?_ ?_ <;> go_simp
theorem named8 (w : World) : Calls Try.prog 89 #[.int .i64 8] w (Named w 8) := by
  go_enter Try.func89, Try.ntmps89
  go_wp2
  go_ret2
  refine named_mk (n := w.heap.size) (k0 := 1) (k1 := 2) (k2 := 0) (by repeat' (first | with_reducible exact Below.refl _ _ | with_reducible assumption | exact Nat.le_refl _ | with_reducible refine Go.Proofs.Ytncmhenfgbcihaa.Rd.below_drewN ?_ _ | with_reducible refine Below.alloc ?_ ?_ _ | with_reducible refine Below.setCell ?_ ?_ _ | with_reducible refine Below.drew ?_ | omega | (simp; omega) | (simp; done))) (by decide) rfl (by omega) ?_ ?_ ?_ <;> go_simp
theorem named9 (w : World) : Calls Try.prog 89 #[.int .i64 9] w (Named w 9) := by
  go_enter Try.func89, Try.ntmps89
  go_wp2
  go_ret2
  refine named_mk (n := w.heap.size) (k0 := 1) (k1 := 2) (k2 := 2) (by repeat' (first | with_reducible exact Below.refl _ _ | with_reducible assumption | exact Nat.le_refl _ | with_reducible refine Go.Proofs.Ytncmhenfgbcihaa.Rd.below_drewN ?_ _ | with_reducible refine Below.alloc ?_ ?_ _ | with_reducible refine Below.setCell ?_ ?_ _ | with_reducible refine Below.drew ?_ | omega | (simp; omega) | (simp; done))) (by decide) rfl (by omega) ?_ ?_ ?_ <;> go_simp
theorem named10 (w : World) : Calls Try.prog 89 #[.int .i64 10] w (Named w 10) := by
  go_enter Try.func89, Try.ntmps89
  go_wp2
  go_ret2
  refine named_mk (n := w.heap.size) (k0 := -1) (k1 := 0) (k2 := 0) (by repeat' (first | with_reducible exact Below.refl _ _ | with_reducible assumption | exact Nat.le_refl _ | with_reducible refine Go.Proofs.Ytncmhenfgbcihaa.Rd.below_drewN ?_ _ | with_reducible refine Below.alloc ?_ ?_ _ | with_reducible refine Below.setCell ?_ ?_ _ | with_reducible refine Below.drew ?_ | omega | (simp; omega) | (simp; done))) (by decide) rfl (by omega) ?_ ?_ ?_ <;> go_simp
theorem named11 (w : World) : Calls Try.prog 89 #[.int .i64 11] w (Named w 11) := by
  go_enter Try.func89, Try.ntmps89
  go_wp2
  go_ret2
  refine named_mk (n := w.heap.size) (k0 := -1) (k1 := -1) (k2 := 1) (by repeat' (first | with_reducible exact Below.refl _ _ | with_reducible assumption | exact Nat.le_refl _ | with_reducible refine Go.Proofs.Ytncmhenfgbcihaa.Rd.below_drewN ?_ _ | with_reducible refine Below.alloc ?_ ?_ _ | with_reducible refine Below.setCell ?_ ?_ _ | with_reducible refine Below.drew ?_ | omega | (simp; omega) | (simp; done))) (by decide) rfl (by omega) ?_ ?_ ?_ <;> go_simp
theorem named12 (w : World) : Calls Try.prog 89 #[.int .i64 12] w (Named w 12) := by
  go_enter Try.func89, Try.ntmps89
  go_wp2
  go_ret2
  refine named_mk (n := w.heap.size) (k0 := -1) (k1 := 0) (k2 := 3) (by repeat' (first | with_reducible exact Below.refl _ _ | with_reducible assumption | exact Nat.le_refl _ | with_reducible refine Go.Proofs.Ytncmhenfgbcihaa.Rd.below_drewN ?_ _ | with_reducible refine Below.alloc ?_ ?_ _ | with_reducible refine Below.setCell ?_ ?_ _ | with_reducible refine Below.drew ?_ | omega | (simp; omega) | (simp; done))) (by decide) rfl (by omega) ?_ ?_ ?_ <;> go_simp
theorem named13 (w : World) : Calls Try.prog 89 #[.int .i64 13] w (Named w 13) := by
  go_enter Try.func89, Try.ntmps89
  go_wp2
  go_ret2
  refine named_mk (n := w.heap.size) (k0 := 3) (k1 := -1) (k2 := 0) (by repeat' (first | with_reducible exact Below.refl _ _ | with_reducible assumption | exact Nat.le_refl _ | with_reducible refine Go.Proofs.Ytncmhenfgbcihaa.Rd.below_drewN ?_ _ | with_reducible refine Below.alloc ?_ ?_ _ | with_reducible refine Below.setCell ?_ ?_ _ | with_reducible refine Below.drew ?_ | omega | (simp; omega) | (simp; done))) (by decide) rfl (by omega) ?_ ?_ ?_ <;> go_simp
theorem named14 (w : World) : Calls Try.prog 89 #[.int .i64 14] w (Named w 14) := by
  go_enter Try.func89, Try.ntmps89
  go_wp2
  go_ret2
  refine named_mk (n := w.heap.size) (k0 := -1) (k1 := 3) (k2 := -1) (by repeat' (first | with_reducible exact Below.refl _ _ | with_reducible assumption | exact Nat.le_refl _ | with_reducible refine Go.Proofs.Ytncmhenfgbcihaa.Rd.below_drewN ?_ _ | with_reducible refine Below.alloc ?_ ?_ _ | with_reducible refine Below.setCell ?_ ?_ _ | with_reducible refine Below.drew ?_ | omega | (simp; omega) | (simp; done))) (by decide) rfl (by omega) ?_ ?_ ?_ <;> go_simp
theorem named15 (w : World) : Calls Try.prog 89 #[.int .i64 15] w (Named w 15) := by
  go_enter Try.func89, Try.ntmps89
  go_wp2
  go_ret2
  refine named_mk (n := w.heap.size) (k0 := -1) (k1 := 3) (k2 := -1) (by repeat' (first | with_reducible exact Below.refl _ _ | with_reducible assumption | exact Nat.le_refl _ | with_reducible refine Go.Proofs.Ytncmhenfgbcihaa.Rd.below_drewN ?_ _ | with_reducible refine Below.alloc ?_ ?_ _ | with_reducible refine Below.setCell ?_ ?_ _ | with_reducible refine Below.drew ?_ | omega | (simp; omega) | (simp; done))) (by decide) rfl (by omega) ?_ ?_ ?_ <;> go_simp
theorem named16 (w : World) : Calls Try.prog 89 #[.int .i64 16] w (Named w 16) := by
  go_enter Try.func89, Try.ntmps89
  go_wp2
  go_ret2
  refine named_mk (n := w.heap.size) (k0 := 3) (k1 := -1) (k2 := 0) (by repeat' (first | with_reducible exact Below.refl _ _ | with_reducible assumption | exact Nat.le_refl _ | with_reducible refine Go.Proofs.Ytncmhenfgbcihaa.Rd.below_drewN ?_ _ | with_reducible refine Below.alloc ?_ ?_ _ | with_reducible refine Below.setCell ?_ ?_ _ | with_reducible refine Below.drew ?_ | omega | (simp; omega) | (simp; done))) (by decide) rfl (by omega) ?_ ?_ ?_ <;> go_simp
theorem named17 (w : World) : Calls Try.prog 89 #[.int .i64 17] w (Named w 17) := by
  go_enter Try.func89, Try.ntmps89
  go_wp2
  go_ret2
  refine named_mk (n := w.heap.size) (k0 := 1) (k1 := 3) (k2 := -1) (by repeat' (first | with_reducible exact Below.refl _ _ | with_reducible assumption | exact Nat.le_refl _ | with_reducible refine Go.Proofs.Ytncmhenfgbcihaa.Rd.below_drewN ?_ _ | with_reducible refine Below.alloc ?_ ?_ _ | with_reducible refine Below.setCell ?_ ?_ _ | with_reducible refine Below.drew ?_ | omega | (simp; omega) | (simp; done))) (by decide) rfl (by omega) ?_ ?_ ?_ <;> go_simp
theorem named18 (w : World) : Calls Try.prog 89 #[.int .i64 18] w (Named w 18) := by
  go_enter Try.func89, Try.ntmps89
  go_wp2
  go_ret2
  refine named_mk (n := w.heap.size) (k0 := -1) (k1 := 0) (k2 := 0) (by repeat' (first | with_reducible exact Below.refl _ _ | with_reducible assumption | exact Nat.le_refl _ | with_reducible refine Go.Proofs.Ytncmhenfgbcihaa.Rd.below_drewN ?_ _ | with_reducible refine Below.alloc ?_ ?_ _ | with_reducible refine Below.setCell ?_ ?_ _ | with_reducible refine Below.drew ?_ | omega | (simp; omega) | (simp; done))) (by decide) rfl (by omega) ?_ ?_ ?_ <;> go_simp
theorem named19 (w : World) : Calls Try.prog 89 #[.int .i64 19] w (Named w 19) := by
  go_enter Try.func89, Try.ntmps89
  go_wp2
  go_ret2
  refine named_mk (n := w.heap.size) (k0 := -1) (k1 := -1) (k2 := 0) (by repeat' (first | with_reducible exact Below.refl _ _ | with_reducible assumption | exact Nat.le_refl _ | with_reducible refine Go.Proofs.Ytncmhenfgbcihaa.Rd.below_drewN ?_ _ | with_reducible refine Below.alloc ?_ ?_ _ | with_reducible refine Below.setCell ?_ ?_ _ | with_reducible refine Below.drew ?_ | omega | (simp; omega) | (simp; done))) (by decide) rfl (by omega) ?_ ?_ ?_ <;> go_simp
theorem named20 (w : World) : Calls Try.prog 89 #[.int .i64 20] w (Named w 20) := by
  go_enter Try.func89, Try.ntmps89
  go_wp2
  go_ret2
  refine named_mk (n := w.heap.size) (k0 := -1) (k1 := 0) (k2 := 0) (by repeat' (first | with_reducible exact Below.refl _ _ | with_reducible assumption | exact Nat.le_refl _ | with_reducible refine Go.Proofs.Ytncmhenfgbcihaa.Rd.below_drewN ?_ _ | with_reducible refine Below.alloc ?_ ?_ _ | with_reducible refine Below.setCell ?_ ?_ _ | with_reducible refine Below.drew ?_ | omega | (simp; omega) | (simp; done))) (by decide) rfl (by omega) ?_ ?_ ?_ <;> go_simp
theorem named21 (w : World) : Calls Try.prog 89 #[.int .i64 21] w (Named w 21) := by
  go_enter Try.func89, Try.ntmps89
  go_wp2
  go_ret2
  refine named_mk (n := w.heap.size) (k0 := 3) (k1 := 0) (k2 := 0) (by repeat' (first | with_reducible exact Below.refl _ _ | with_reducible assumption | exact Nat.le_refl _ | with_reducible refine Go.Proofs.Ytncmhenfgbcihaa.Rd.below_drewN ?_ _ | with_reducible refine Below.alloc ?_ ?_ _ | with_reducible refine Below.setCell ?_ ?_ _ | with_reducible refine Below.drew ?_ | omega | (simp; omega) | (simp; done))) (by decide) rfl (by omega) ?_ ?_ ?_ <;> go_simp
theorem named22 (w : World) : Calls Try.prog 89 #[.int .i64 22] w (Named w 22) := by
  go_enter Try.func89, Try.ntmps89
  go_wp2
  go_ret2
  refine named_mk (n := w.heap.size) (k0 := 3) (k1 := 0) (k2 := 0) (by repeat' (first | with_reducible exact Below.refl _ _ | with_reducible assumption | exact Nat.le_refl _ | with_reducible refine Go.Proofs.Ytncmhenfgbcihaa.Rd.below_drewN ?_ _ | with_reducible refine Below.alloc ?_ ?_ _ | with_reducible refine Below.setCell ?_ ?_ _ | with_reducible refine Below.drew ?_ | omega | (simp; omega) | (simp; done))) (by decide) rfl (by omega) ?_ ?_ ?_ <;> go_simp
theorem named23 (w : World) : Calls Try.prog 89 #[.int .i64 23] w (Named w 23) := by
  go_enter Try.func89, Try.ntmps89
  go_wp2
  go_ret2
  refine named_mk (n := w.heap.size) (k0 := -1) (k1 := -1) (k2 := 0) (by repeat' (first | with_reducible exact Below.refl _ _ | with_reducible assumption | exact Nat.le_refl _ | with_reducible refine Go.Proofs.Ytncmhenfgbcihaa.Rd.below_drewN ?_ _ | with_reducible refine Below.alloc ?_ ?_ _ | with_reducible refine Below.setCell ?_ ?_ _ | with_reducible refine Below.drew ?_ | omega | (simp; omega) | (simp; done))) (by decide) rfl (by omega) ?_ ?_ ?_ <;> go_simp
theorem named24 (w : World) : Calls Try.prog 89 #[.int .i64 24] w (Named w 24) := by
  go_enter Try.func89, Try.ntmps89
  go_wp2
  go_ret2
  refine named_mk (n := w.heap.size) (k0 := 2) (k1 := 0) (k2 := 0) (by repeat' (first | with_reducible exact Below.refl _ _ | with_reducible assumption | exact Nat.le_refl _ | with_reducible refine Go.Proofs.Ytncmhenfgbcihaa.Rd.below_drewN ?_ _ | with_reducible refine Below.alloc ?_ ?_ _ | with_reducible refine Below.setCell ?_ ?_ _ | with_reducible refine Below.drew ?_ | omega | (simp; omega) | (simp; done))) (by decide) rfl (by omega) ?_ ?_ ?_ <;> go_simp
theorem namedNo (op : Int) (w : World) (h : ¬ (1 ≤ op ∧ op ≤ 24)) : Calls Try.prog 89 #[.int .i64 op] w (Named w op) := by
  have hk : Hid (Rform.kinds op = none) := by
    show _ = _
    unfold Rform.kinds
    repeat rw [if_neg (by omega)]
  have n1 : (op == 1) = false := by simp; omega
  have n2 : (op == 2) = false := by simp; omega
  have n3 : (op == 3) = false := by simp; omega
  have n4 : (op == 4) = false := by simp; omega
  have n5 : (op == 5) = false := by simp; omega
  have n6 : (op == 6) = false := by simp; omega
  have n7 : (op == 7) = false := by simp; omega
  have n8 : (op == 8) = false := by simp; omega
  have n9 : (op == 9) = false := by simp; omega
  have n10 : (op == 10) = false := by simp; omega
  have n11 : (op == 11) = false := by simp; omega
  have n12 : (op == 12) = false := by simp; omega
  have n13 : (op == 13) = false := by simp; omega
  have n14 : (op == 14) = false := by simp; omega
  have n15 : (op == 15) = false := by simp; omega
  have n16 : (op == 16) = false := by simp; omega
  have n17 : (op == 17) = false := by simp; omega
  have n18 : (op == 18) = false := by simp; omega
  have n19 : (op == 19) = false := by simp; omega
  have n20 : (op == 20) = false := by simp; omega
  have n21 : (op == 21) = false := by simp; omega
  have n22 : (op == 22) = false := by simp; omega
  have n23 : (op == 23) = false := by simp; omega
  have n24 : (op == 24) = false := by simp; omega
  clear h
  go_enter Try.func89, Try.ntmps89
  go_wp2
  go_ret2
  exact ⟨Below.refl _ _, .inl ⟨hk.out, rfl⟩⟩
theorem named (op : Int) (w : World) : Calls Try.prog 89 #[.int .i64 op] w (Named w op) := by
  by_cases h1 : op = 1
  · subst h1; exact named1 w
  by_cases h2 : op = 2
  · subst h2; exact named2 w
  by_cases h3 : op = 3
  · subst h3; exact named3 w
  by_cases h4 : op = 4
  · subst h4; exact named4 w
  by_cases h5 : op = 5
  · subst h5; exact named5 w
  by_cases h6 : op = 6
  · subst h6; exact named6 w
  by_cases h7 : op = 7
  · subst h7; exact named7 w
  by_cases h8 : op = 8
  · subst h8; exact named8 w
  by_cases h9 : op = 9
  · subst h9; exact named9 w
  by_cases h10 : op = 10
  · subst h10; exact named10 w
  by_cases h11 : op = 11
  · subst h11; exact named11 w
  by_cases h12 : op = 12
  · subst h12; exact named12 w
  by_cases h13 : op = 13
  · subst h13; exact named13 w
  by_cases h14 : op = 14
  · subst h14; exact named14 w
  by_cases h15 : op = 15
  · subst h15; exact named15 w
  by_cases h16 : op = 16
  · subst h16; exact named16 w
  by_cases h17 : op = 17
  · subst h17; exact named17 w
  by_cases h18 : op = 18
  · subst h18; exact named18 w
  by_cases h19 : op = 19
  · subst h19; exact named19 w
  by_cases h20 : op = 20
  · subst h20; exact named20 w
  by_cases h21 : op = 21
  · subst h21; exact named21 w
  by_cases h22 : op = 22
  · subst h22; exact named22 w
  by_cases h23 : op = 23
  · subst h23; exact named23 w
  by_cases h24 : op = 24
  · subst h24; exact named24 w
  exact namedNo op w (by omega)

theorem reg_within (regs n kd : Int) : Rform.reg regs n kd = if kd = 2 then within n 0 (regs - 2) else within n 0 (regs - 1) := by
  unfold Rform.reg Form.wide within Form.rng
  split <;> (apply decide_eq_decide.2; omega)

set_option maxHeartbeats 1000000 in
theorem reg (m : Me) (n kd : Int) (vm : Value) (w : World) (hm : VMe w w.heap.size vm m) (hr : 0 ≤ m.regs ∧ m.regs ≤ 90) : Calls Try.prog 90 #[vm, .int .i64 n, .int .i64 kd] w fun e w' => e = .returned (.bool (Rform.reg m.regs n kd)) ∧ Below w.heap.size w w' := by
  obtain ⟨vp, vcd, vh, rfl, _⟩ := hm
  obtain ⟨hr1, hr2⟩ := hr
  have hW := Lib.hid (reg_within m.regs n kd)
  by_cases q : kd = 2
  · subst q
    have hw2 := Lib.hid (hW.out.trans (if_pos rfl))
    go_enter Try.func90, Try.ntmps90
    go_wp2_with (go_at_call 48; refine (wi _ _ _ _).mono ?_; rintro e w1 ⟨rfl, rfl⟩)
    go_ret
    exact ⟨ret_bool hw2.out.symm, (by repeat' (first | with_reducible exact Below.refl _ _ | with_reducible assumption | exact Nat.le_refl _ | with_reducible refine Go.Proofs.Ytncmhenfgbcihaa.Rd.below_drewN ?_ _ | with_reducible refine Below.alloc ?_ ?_ _ | with_reducible refine Below.setCell ?_ ?_ _ | with_reducible refine Below.drew ?_ | omega | (simp; omega) | (simp; done)))⟩
  · have q' : (kd == 2) = false := by simpa using q
    have hw2 := Lib.hid (hW.out.trans (if_neg q))
    clear q
    go_enter Try.func90, Try.ntmps90
    go_wp2_with (go_at_call 48; refine (wi _ _ _ _).mono ?_; rintro e w1 ⟨rfl, rfl⟩)
    go_ret
    exact ⟨ret_bool hw2.out.symm, (by repeat' (first | with_reducible exact Below.refl _ _ | with_reducible assumption | exact Nat.le_refl _ | with_reducible refine Go.Proofs.Ytncmhenfgbcihaa.Rd.below_drewN ?_ _ | with_reducible refine Below.alloc ?_ ?_ _ | with_reducible refine Below.setCell ?_ ?_ _ | with_reducible refine Below.drew ?_ | omega | (simp; omega) | (simp; done)))⟩
theorem regV (m : Me) (n kd : Int) (p : Bool) (vm : Value) (w : World) (hp : Rform.reg m.regs n kd = p) (hm : VMe w w.heap.size vm m) (hr : 0 ≤ m.regs ∧ m.regs ≤ 90) : Calls Try.prog 90 #[vm, .int .i64 n, .int .i64 kd] w fun e w' => e = .returned (.bool p) ∧ Below w.heap.size w w' := by
  subst hp; exact reg m n kd vm w hm hr
end RefG
end Go.Proofs.Ytncmhenfgbcihaa
