/- The walks through hier.Type, hier.May and the reference's. -/
import Derived.Test.YtncmhenfgbcihabHier
import Derived.Test.YtncmhenfgbcihabRdO
import Derived.WalkSpells
import Derived.WalkLawsBesides
import Derived.Lib.Hide
namespace Go.Proofs.Ytncmhenfgbcihab
open Go.RowKit
set_option linter.unusedSimpArgs false
set_option linter.unusedVariables false
namespace HierW
open Num Rd D

/-- classes, as a world holds them -/
def Cs (w : World) (v : Value) (l : List Cls) : Prop := Sl 2 ECls w w.heap.size v l
theorem Cs.next {w w' : World} {v : Value} {l : List Cls} (h : Cs w v l) (hb : Below w.heap.size w w') : Cs w' v l := Sl.mono mCls h hb hb.size

/-- what a call leaves, told from an earlier world on -/
theorem based {P : Program} {f : FuncId} {args : Array Value} {w0 w : World} {R : Ending → Prop} (hb : Below w0.heap.size w0 w) (h : Calls P f args w fun e w' => R e ∧ Below w.heap.size w w') : Calls P f args w fun e w' => R e ∧ Below w0.heap.size w0 w' :=
  h.mono fun e w' ⟨h1, h2⟩ => ⟨h1, hb.trans (h2.mono hb.size)⟩

theorem ret_bool {a b : Bool} (h : a = b) : Ending.returned (.bool a) = .returned (.bool b) := by rw [h]
theorem ret_int {k : IntKind} {a b : Int} (h : a = b) : Ending.returned (.int k a) = .returned (.int k b) := by rw [h]

set_option maxHeartbeats 1000000 in
theorem type (a : Option Addr) (n cap : Nat) (t : Ty) (w : World) : Calls Try.prog 141 #[.slice a n cap, .agg #[.int .i64 t.kind, .int .i64 t.cls]] w fun e w' => e = .returned (.bool (Hier.ty n t)) ∧ Below w.heap.size w w' := by
  obtain ⟨k, c⟩ := t
  have E : Hid (Hier.ty n ⟨k, c⟩ = if k = 1 ∨ k = 2 then decide (c = 0) else if k = 3 then decide (0 ≤ c ∧ c < n) else false) := rfl
  go_enter Try.func141, Try.ntmps141
  go_wp2
  all_goals go_ret
  all_goals go_tidy
  all_goals refine ⟨ret_bool ?_, (by repeat' (first | with_reducible exact Below.refl _ _ | with_reducible assumption | exact Nat.le_refl _ | with_reducible refine Go.Proofs.Ytncmhenfgbcihab.Rd.below_drewN ?_ _ | with_reducible refine Below.alloc ?_ ?_ _ | with_reducible refine Below.setCell ?_ ?_ _ | with_reducible refine Below.drew ?_ | omega | (simp; omega) | (simp; done)))⟩
  all_goals rw [E.out]
  all_goals simp_all
  all_goals first | rfl | (intros; omega)

set_option maxHeartbeats 1000000 in
theorem rtype (a : Option Addr) (n cap : Nat) (t : Ty) (w : World) : Calls Try.prog 98 #[.slice a n cap, .agg #[.int .i64 t.kind, .int .i64 t.cls]] w fun e w' => e = .returned (.bool (Hier.ty n t)) ∧ Below w.heap.size w w' := by
  obtain ⟨k, c⟩ := t
  have E : Hid (Hier.ty n ⟨k, c⟩ = if k = 1 ∨ k = 2 then decide (c = 0) else if k = 3 then decide (0 ≤ c ∧ c < n) else false) := rfl
  go_enter Try.func98, Try.ntmps98
  go_wp2
  all_goals go_ret
  all_goals go_tidy
  all_goals refine ⟨ret_bool ?_, (by repeat' (first | with_reducible exact Below.refl _ _ | with_reducible assumption | exact Nat.le_refl _ | with_reducible refine Go.Proofs.Ytncmhenfgbcihab.Rd.below_drewN ?_ _ | with_reducible refine Below.alloc ?_ ?_ _ | with_reducible refine Below.setCell ?_ ?_ _ | with_reducible refine Below.drew ?_ | omega | (simp; omega) | (simp; done)))⟩
  all_goals rw [E.out]
  all_goals simp_all
  all_goals first | rfl | (intros; omega)


/-- an old cell, in a later world -/
theorem kept {B : Nat} {w w' : World} {b o : Nat} {v : Value} (hb : Below B w w') (hlt : b < B) (h : w.cell? ⟨b, o, none⟩ = some v) : w'.cell? ⟨b, o, none⟩ = some v := (hb.cell (p := ⟨b, o, none⟩) hlt).trans h
theorem cls_false {n : Int} {i : Nat} {c : Cls} (h : Hier.supOk i c.sup = false ∨ 6 < c.fields.length) : Hier.cls n i c = false := by
  unfold Hier.cls
  rcases h with h | h
  · rw [h]; rfl
  · rw [decide_eq_false (by omega)]; simp
theorem cls_false_at {n : Int} {i j : Nat} {c : Cls} (h : j < c.fields.length) (hf : Hier.ty n c.fields[j] = false) : Hier.cls n i c = false := by
  have : c.fields.all (Hier.ty n) = false := by
    rw [List.all_eq_false]; exact ⟨_, List.getElem_mem h, by rw [hf]; simp⟩
  unfold Hier.cls; rw [this]; simp
theorem cls_true {n : Int} {i : Nat} {c : Cls} (hs : Hier.supOk i c.sup = true) (hl : c.fields.length ≤ 6) (hf : ∀ j (h : j < c.fields.length), Hier.ty n c.fields[j] = true) : Hier.cls n i c = true := by
  unfold Hier.cls; rw [hs, decide_eq_true hl]
  simp only [Bool.true_and, List.all_eq_true]
  intro x hx
  obtain ⟨j, hj, rfl⟩ := List.getElem_of_mem hx
  exact hf j hj

theorem all_next {l : List Cls} {n : Int} {k : Nat} (hall : ∀ j (h : j < l.length), j < k → Hier.cls n j l[j] = true) (hlt : k < l.length) (hc : Hier.cls n k l[k] = true) : ∀ j (h : j < l.length), j < k + 1 → Hier.cls n j l[j] = true := fun j h hj => by
  by_cases e : j = k
  · subst e; exact hc
  · exact hall j h (by omega)
theorem tys_next {l : List Ty} {n : Int} {k : Nat} (hall : ∀ j (h : j < l.length), j < k → Hier.ty n l[j] = true) (hlt : k < l.length) (hc : Hier.ty n l[k] = true) : ∀ j (h : j < l.length), j < k + 1 → Hier.ty n l[j] = true := fun j h hj => by
  by_cases e : j = k
  · subst e; exact hc
  · exact hall j h (by omega)

theorem at_of {α : Type} {l : List α} {k : Nat} (h : k < l.length) : ∃ c, Hid (l[k] = c) := ⟨_, rfl⟩

set_option maxRecDepth 100000 in
set_option maxHeartbeats 4000000 in
theorem may (v : Value) (l : List Cls) (w : World) (h : Cs w v l) : Calls Try.prog 88 #[v] w fun e w' => e = .returned (.bool (Hier.may l)) ∧ Below w.heap.size w w' := by
  obtain ⟨a, cap, rfl, hlc, hcc, hel⟩ := h
  by_cases q1 : l.length < 4
  · have e1 := Lib.hid (Hier.may_false_len (l := l) (by omega))
    go_enter Try.func88, Try.ntmps88
    go_wp2
    all_goals go_ret
    all_goals exact ⟨ret_bool e1.out.symm, (by repeat' (first | with_reducible exact Below.refl _ _ | with_reducible assumption | exact Nat.le_refl _ | with_reducible refine Go.Proofs.Ytncmhenfgbcihab.Rd.below_drewN ?_ _ | with_reducible refine Below.alloc ?_ ?_ _ | with_reducible refine Below.setCell ?_ ?_ _ | with_reducible refine Below.drew ?_ | omega | (simp; omega) | (simp; done)))⟩
  by_cases q2 : 12 < l.length
  · have e1 := Lib.hid (Hier.may_false_len (l := l) (by omega))
    go_enter Try.func88, Try.ntmps88
    go_wp2
    all_goals go_ret
    all_goals exact ⟨ret_bool e1.out.symm, (by repeat' (first | with_reducible exact Below.refl _ _ | with_reducible assumption | exact Nat.le_refl _ | with_reducible refine Go.Proofs.Ytncmhenfgbcihab.Rd.below_drewN ?_ _ | with_reducible refine Below.alloc ?_ ?_ _ | with_reducible refine Below.setCell ?_ ?_ _ | with_reducible refine Below.drew ?_ | omega | (simp; omega) | (simp; done)))⟩
  go_enter Try.func88, Try.ntmps88
  go_wp2
  go_loopw [17] (fun i wr => ∃ k : Nat, k ≤ l.length ∧ i = .int .i64 k ∧ Below w.heap.size w wr ∧ Hid (∀ j (h : j < l.length), j < k → Hier.cls l.length j l[j] = true)) (fun i _ => l.length - (intOf i).toNat)
  case atStart => exact ⟨0, by omega, rfl, (by repeat' (first | with_reducible exact Below.refl _ _ | with_reducible assumption | exact Nat.le_refl _ | with_reducible refine Go.Proofs.Ytncmhenfgbcihab.Rd.below_drewN ?_ _ | with_reducible refine Below.alloc ?_ ?_ _ | with_reducible refine Below.setCell ?_ ?_ _ | with_reducible refine Below.drew ?_ | omega | (simp; omega) | (simp; done))), fun j _ h => absurd h (by omega)⟩
  case round =>
    obtain ⟨k, hk, rfl, hbw, hall⟩ := hrel
    by_cases hlt : k < l.length
    · obtain ⟨b, o, rfl, hb, he⟩ := hel k hlt
      have hno := Lib.hid (fun hc => Hier.may_false_at (l := l) hlt hc)
      have hyes := Lib.hid (all_next hall.out hlt)
      obtain ⟨c, hc⟩ := at_of hlt
      rw [hc.out] at he hno hyes
      obtain ⟨c, fl⟩ := c
      obtain ⟨g1, g2, fv, g3, fa, fcap, rfl, flc, fcc, fel⟩ := he
      simp only at g1 g2 g3 flc fel
      have k1 := kept hbw hb g1
      have k2 := kept hbw hb g3
      have hbs := hbw.size
      clear hel g1 g3
      go_wp2_with (go_at_call 141; refine (type _ _ _ _ _).mono ?_; rintro e w1 ⟨rfl, hb1⟩)
      all_goals first
        | (go_ret
           refine ⟨ret_bool (hno.out (cls_false ?_)).symm, (by repeat' (first | with_reducible exact Below.refl _ _ | with_reducible assumption | exact Nat.le_refl _ | with_reducible refine Go.Proofs.Ytncmhenfgbcihab.Rd.below_drewN ?_ _ | with_reducible refine Below.alloc ?_ ?_ _ | with_reducible refine Below.setCell ?_ ?_ _ | with_reducible refine Below.drew ?_ | omega | (simp; omega) | (simp; done)))⟩
           simp only [Hier.supOk]
           (repeat' split) <;> simp <;> omega)
        | skip
      all_goals
        have hfl : fl.length ≤ 6 := by omega
        have hsup : Hid (Hier.supOk k c = true) := by
          show Hier.supOk k c = true
          unfold Hier.supOk
          split <;> rw [decide_eq_true_eq] <;> omega
        go_loopw [53] (fun i wr2 => ∃ m : Nat, m ≤ fl.length ∧ i = .int .i64 m ∧ Below w.heap.size w wr2 ∧ Hid (∀ j (h : j < fl.length), j < m → Hier.ty l.length fl[j] = true)) (fun i _ => fl.length - (intOf i).toNat)
        case atStart => exact ⟨0, by omega, rfl, (by repeat' (first | with_reducible exact Below.refl _ _ | with_reducible assumption | exact Nat.le_refl _ | with_reducible refine Go.Proofs.Ytncmhenfgbcihab.Rd.below_drewN ?_ _ | with_reducible refine Below.alloc ?_ ?_ _ | with_reducible refine Below.setCell ?_ ?_ _ | with_reducible refine Below.drew ?_ | omega | (simp; omega) | (simp; done))), fun j _ h => absurd h (by omega)⟩
        case round =>
          obtain ⟨m, hm, rfl, hbw2, hall2⟩ := hrel
          have hbs2 := hbw2.size
          by_cases hlt2 : m < fl.length
          · obtain ⟨fb, fo, rfl, hfb, fe⟩ := fel m hlt2
            obtain ⟨f1, f2, _, _⟩ := fe
            have hyes2 := Lib.hid (tys_next hall2.out hlt2)
            have hno2 := Lib.hid (fun hf => hno.out (cls_false_at (c := ⟨c, fl⟩) hlt2 hf))
            obtain ⟨t, ht⟩ := at_of hlt2
            rw [ht.out] at f1 f2 hyes2 hno2
            have p1 := kept hbw2 hfb f1
            have p2 := kept hbw2 hfb f2
            clear fel f1 f2
            obtain ⟨tb, htb⟩ : ∃ tb, Hid (Hier.ty l.length t = tb) := ⟨_, rfl⟩
            cases tb
            · go_wp2_with (go_at_call 141; refine (type _ _ _ t _).mono ?_; rw [htb.out]; rintro e w1 ⟨rfl, hb1⟩)
              go_ret
              exact ⟨ret_bool (hno2.out htb.out).symm, (hbw2.alloc (by omega) _).trans (hb1.mono (by simp; omega))⟩
            · go_wp2_with (go_at_call 141; refine (type _ _ _ t _).mono ?_; rw [htb.out]; rintro e w1 ⟨rfl, hb1⟩)
              go_roundw
              case rel => exact ⟨m + 1, by omega, by go_num, (hbw2.alloc (by omega) _).trans (hb1.mono (by simp; omega)), hyes2.out htb.out⟩
              case measure => simp [intOf]; omega
          · obtain rfl : m = fl.length := by omega
            have hnext := Lib.hid (hyes.out (cls_true (c := ⟨c, fl⟩) hsup.out hfl (fun j hj => hall2.out j hj hj)))
            go_wp2
            go_roundw
            case rel => exact ⟨k + 1, by omega, by go_num, hbw2, hnext.out⟩
            case measure => simp [intOf]; omega
    · have e1 : Hid (Hier.may l = true) := (Hier.may_iff l).2 ⟨by omega, fun j h => hall.out j h (by omega)⟩
      go_wp2
      all_goals go_ret
      all_goals exact ⟨ret_bool e1.out.symm, hbw⟩
end HierW
end Go.Proofs.Ytncmhenfgbcihab
