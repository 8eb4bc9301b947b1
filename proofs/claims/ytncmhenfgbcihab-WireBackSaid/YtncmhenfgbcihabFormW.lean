/- The walks through sform. -/
import Derived.Test.YtncmhenfgbcihabForm
import Derived.Test.YtncmhenfgbcihabHierW
import Derived.Deep.RegionHeld3
import Derived.Deep.QuietTactic
import Derived.BigQuiet
import Derived.Deep.RegionWith
namespace Go.Proofs.Ytncmhenfgbcihab
open Go.RowKit
set_option linter.unusedSimpArgs false
set_option linter.unusedVariables false
namespace FormW
open Num Rd D HierW

theorem sin (n lo hi : Int) (w : World) : Calls Try.prog 89 #[.int .i64 n, .int .i64 lo, .int .i64 hi] w fun e w' => e = .returned (.bool (Form.rng n lo hi)) ∧ w = w' := by
  go_enter Try.func89, Try.ntmps89
  go_wp2
  all_goals go_ret
  all_goals go_tidy
  all_goals refine ⟨ret_bool ?_, rfl⟩
  all_goals simp_all [Form.rng]
  all_goals (intros; omega)

/-- the world where a walk stands, under one name, with what is known of it -/
theorem name_world {G : World → Prop} {w : World} (R : World → Prop) (hR : R w) (h : ∀ W, R W → G W) : G w := h w hR

/-- types, as a world holds them -/
def Ts (w : World) (v : Value) (l : List Ty) : Prop := Sl 2 ETy w w.heap.size v l
theorem Ts.next {w w' : World} {v : Value} {l : List Ty} (h : Ts w v l) (hb : Below w.heap.size w w') : Ts w' v l := Sl.mono mTy h hb hb.size

theorem lt_cell {W : World} {b o : Nat} {v : Value} (h : W.cell? ⟨b, o, none⟩ = some v) : b < W.heap.size := by
  unfold World.cell? at h
  split at h
  · rename_i hx
    exact (Array.getElem?_eq_some_iff.1 hx).1
  · cases h

/-- a slice of one new type -/
theorem Ts.one {w : World} {b : Nat} {k c : Int} (h1 : w.cell? ⟨b, 0, none⟩ = some (.int .i64 k)) (h2 : w.cell? ⟨b, 1, none⟩ = some (.int .i64 c)) (o1 : Ok k) (o2 : Ok c) : Ts w (.slice (some ⟨b, 0, none⟩) 1 1) [⟨k, c⟩] := by
  refine ⟨some ⟨b, 0, none⟩, 1, rfl, by simp, by omega, fun i hi => ?_⟩
  obtain rfl : i = 0 := by simpa using hi
  exact ⟨b, 0, rfl, lt_cell h1, h1, h2, o1, o2⟩

theorem slots_end {l : List Ty} {k : Nat} (h : ¬ k < l.length) (hk : k ≤ l.length) : Form.slots (l.take k) = Form.slots l := by
  rw [List.take_of_length_le (by omega)]

set_option maxHeartbeats 1000000 in
theorem slots (v : Value) (l : List Ty) (w : World) (h : Ts w v l) (hs : l.length ≤ 1000000000) : Calls Try.prog 92 #[v] w fun e w' => e = .returned (.int .i64 (Form.slots l : Nat)) ∧ Below w.heap.size w w' := by
  obtain ⟨a, cap, rfl, hlc, hcc, hel⟩ := h
  go_enter Try.func92, Try.ntmps92
  go_wp2
  go_loopw [3, 8] (fun n i wr => ∃ k : Nat, k ≤ l.length ∧ i = .int .i64 k ∧ n = .int .i64 (Form.slots (l.take k) : Nat) ∧ Below w.heap.size w wr) (fun _ i _ => l.length - (intOf i).toNat)
  case atStart => exact ⟨0, by omega, rfl, rfl, Below.refl _ _⟩
  case round =>
    obtain ⟨k, hk, rfl, rfl, hbw⟩ := hrel
    have hbs := hbw.size
    have hle := Form.slots_le (l.take k)
    have hlt' : (l.take k).length ≤ k := List.length_take_le _ _
    by_cases hlt : k < l.length
    · obtain ⟨b, o, rfl, hb, he⟩ := hel k hlt
      have hst := Lib.hid (Form.slots_take hlt)
      obtain ⟨t, ht⟩ := at_of hlt
      rw [ht.out] at he hst
      obtain ⟨g1, g2, _, _⟩ := he
      have k1 := kept hbw hb g1
      have k2 := kept hbw hb g2
      obtain ⟨kd, c⟩ := t
      simp only at k1 k2
      obtain ⟨S, hS⟩ : ∃ S, Hid (Form.slots (l.take k) = S) := ⟨_, rfl⟩
      rw [hS.out] at hst hle ⊢
      have hS2 : (S : Int) ≤ 2000000000 := by omega
      clear hel g1 g2 hlt'
      by_cases q : kd = 2
      · subst q
        go_wp2
        go_roundw
        case rel => exact ⟨k + 1, by omega, by go_num, by rw [hst.out]; simp; omega, (by repeat' (first | with_reducible exact Below.refl _ _ | with_reducible assumption | exact Nat.le_refl _ | with_reducible refine Go.Proofs.Ytncmhenfgbcihab.Rd.below_drewN ?_ _ | with_reducible refine Below.alloc ?_ ?_ _ | with_reducible refine Below.setCell ?_ ?_ _ | with_reducible refine Below.drew ?_ | omega | (simp; omega) | (simp; done)))⟩
        case measure => simp [intOf]; omega
      · have q' : (kd == 2) = false := by simpa using q
        go_wp2
        go_roundw
        case rel => exact ⟨k + 1, by omega, by go_num, by rw [hst.out, if_neg q]; simp, (by repeat' (first | with_reducible exact Below.refl _ _ | with_reducible assumption | exact Nat.le_refl _ | with_reducible refine Go.Proofs.Ytncmhenfgbcihab.Rd.below_drewN ?_ _ | with_reducible refine Below.alloc ?_ ?_ _ | with_reducible refine Below.setCell ?_ ?_ _ | with_reducible refine Below.drew ?_ | omega | (simp; omega) | (simp; done)))⟩
        case measure => simp [intOf]; omega
    · have hst := Lib.hid (slots_end hlt hk)
      clear hel
      go_wp2
      go_ret
      exact ⟨ret_int (by rw [hst.out]), hbw⟩
theorem slotsV (v : Value) (l : List Ty) (S : Nat) (w : World) (h : Ts w v l) (hs : l.length ≤ 1000000000) (hS : Form.slots l = S) : Calls Try.prog 92 #[v] w fun e w' => e = .returned (.int .i64 S) ∧ Below w.heap.size w w' := by
  subst hS; exact slots v l w h hs
theorem slots_one (k c : Int) : (Form.slots [⟨k, c⟩] : Int) = Form.wide k := by
  simp only [Form.slots, Form.wide]; split <;> rfl
theorem sinV (n lo hi : Int) (p : Bool) (w : World) (hp : Form.rng n lo hi = p) : Calls Try.prog 89 #[.int .i64 n, .int .i64 lo, .int .i64 hi] w fun e w' => e = .returned (.bool p) ∧ w = w' := by
  subst hp; exact sin n lo hi w
theorem sin' (n lo hi : Int) (w : World) : Calls Try.prog 89 #[.int .i64 n, .int .i64 lo, .int .i64 hi] w fun e w' => e = .returned (.bool (Form.rng n lo hi)) ∧ w' = w := (sin n lo hi w).mono fun e w' ⟨h1, h2⟩ => ⟨h1, h2.symm⟩

/-! ### two types against each other -/
theorem ty_s1 : Try.prog.underlying 51 = some (.struct (Try.prog.fieldsOf 51)) := by kernel_rfl
theorem ty_s2 : Try.prog.stoodInHeld 51 = false := by kernel_rfl
theorem ty_s3 : Try.prog.eqGuardType Try.prog.depth 51 = false := by kernel_rfl
theorem ty_s4 : (Try.prog.fieldsOf 51).toList = [⟨"Kind", 3, 0, false, "", "", 0⟩, ⟨"Class", 3, 1, false, "", "", 8⟩] := by kernel_rfl
theorem run_eql_ty (k c k' c' : Int) (w : World) : (binOp .eql 51 (.agg #[.int .i64 k, .int .i64 c]) (.agg #[.int .i64 k', .int .i64 c'])).run Try.prog w = .ok (.bool (k == k' && c == c')) w := by
  rw [run_eql_struct, run_equalIn_agg _ 9999 51 _ _ ty_s1 ty_s2, ty_s4]
  simp [Op.eqFields, Sem.run_bind, go_sem]
  by_cases h1 : k = k' <;> by_cases h2 : c = c' <;> simp [h1, h2]
theorem run_neq_ty (k c k' c' : Int) (w : World) : (binOp .neq 51 (.agg #[.int .i64 k, .int .i64 c]) (.agg #[.int .i64 k', .int .i64 c'])).run Try.prog w = .ok (.bool (!(k == k' && c == c'))) w := by
  rw [run_neq_struct, run_equalIn_agg _ 9999 51 _ _ ty_s1 ty_s2, ty_s4]
  simp [Op.eqFields, Sem.run_bind, go_sem]
  by_cases h1 : k = k' <;> by_cases h2 : c = c' <;> simp [h1, h2]
theorem run_guard_ty (op : BinOp) (x y : Operand) (xs ys : Array Value) (w : World) : (eqGuard op 51 x y (.agg xs) (.agg ys)).run Try.prog w = .ok () w := run_eqGuard_agg w op 51 x y xs ys ty_s3
end FormW
end Go.Proofs.Ytncmhenfgbcihab
