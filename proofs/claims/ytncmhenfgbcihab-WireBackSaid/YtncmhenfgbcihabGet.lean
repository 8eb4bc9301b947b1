/- The walk through wire.Get. -/
import Derived.Test.YtncmhenfgbcihabRdrK
import Derived.Test.YtncmhenfgbcihabWireForm
import Derived.Defers
import Derived.Recover
import Derived.Deep.Cut
import Derived.Deep.CutRange
import Derived.Deep.RegionHeld3
import Derived.Test.YtncmhenfgbcihabDrawn
import Derived.Laws.Pointers
namespace Go.Proofs.Ytncmhenfgbcihab
open Go.RowKit
set_option linter.unusedSimpArgs false
set_option linter.unusedVariables false
namespace Wire
open Num Rd D Bytes HierW FormW

theorem assert_yes (w : World) : (Instr.typeAssert (.iface 78 (.agg #[])) 20 78 true).run Try.prog w = .ok (.tuple #[.agg #[], .bool true]) w := by kernel_rfl

set_option maxHeartbeats 1000000 in
theorem idle (p q : Addr) (w : World) : CallsD Try.prog 38 #[.pointer (some p), .pointer (some q)] .returning w fun e u' w' => e = .returned (.tuple #[]) ∧ u' = .returning ∧ w' = w := by
  refine callsD_of_wpS Try.func38 rfl fun c₀ cs hu => ?_
  apply wpS_seq
  apply wpS_region
  simp [wpOpsS, go_sem, recoverD, hu, Try.ntmps38, Exit.thenS]
  refine wpS_of_wp ?_
  go_wp2
  all_goals (cases c₀; simp_all [bodyPostS, results, Try.results38])

set_option maxRecDepth 100000 in
set_option maxHeartbeats 1000000 in
theorem caught (n m : Nat) (a b : Value) (x : Int) (older : List PanicEntry) (w : World) (h0 : w.cell? ⟨n, 0, none⟩ = some a ∧ w.cell? ⟨n, 1, none⟩ = some b ∧ w.cell? ⟨m, 0, none⟩ = some (.int .i64 x)) (hnm : ¬ n = m) (hf : w.frozen? ⟨n, 0, none⟩ = false ∧ w.frozen? ⟨n, 1, none⟩ = false ∧ w.frozen? ⟨m, 0, none⟩ = false) :
    CallsD Try.prog 38 #[.pointer (some ⟨n, 0, none⟩), .pointer (some ⟨m, 0, none⟩)] (.panicking ({ v := .iface 78 (.agg #[]), recovered := false } :: older)) w fun e u' w' =>
      e = .returned (.tuple #[]) ∧ u' = .panicking ({ v := .iface 78 (.agg #[]), recovered := true } :: older) ∧ w' = (((w.setCell ⟨n, 0, none⟩ (.slice none 0 0)).setCell ⟨n, 1, none⟩ (.slice none 0 0)).setCell ⟨m, 0, none⟩ (.int .i64 2)).alloc (.cells #[] 78) := by
  have hta := assert_yes
  obtain ⟨h1, h2, h3⟩ := h0
  obtain ⟨f1, f2, f3⟩ := hf
  have hn := lt_cell' h1
  have hm := lt_cell' h3
  refine callsD_of_wpS Try.func38 rfl fun c₀ cs hu => ?_
  apply wpS_seq
  apply wpS_region
  simp [wpOpsS, go_sem, recoverD, hu, Try.ntmps38, Exit.thenS]
  rw [show (Array.replicate 15 undef : Array Value) = #[undef, undef, undef, undef, undef, undef, undef, undef, undef, undef, undef, undef, undef, undef, undef] from rfl]
  simp only [List.setIfInBounds_toArray, List.set_cons_succ, List.set_cons_zero, List.append_toArray, List.cons_append, List.nil_append]
  refine wpS_of_wp ?_
  go_wp2
  simp [bodyPostS, results, Try.results38]

theorem Rdr.keepSet {w : World} {B b : Nat} {bs : List UInt8} (h : Rdr w B b bs) {n o : Nat} (hn : B ≤ n ∧ n ≠ b) (x : Value) : Rdr (w.setCell ⟨n, o, none⟩ x) B b bs := by
  have h1 := h.lt
  obtain ⟨hB, v, hc, hf, hs⟩ := h
  have hk : Wk [n] w (w.setCell ⟨n, o, none⟩ x) := (Wk.refl _ _).setCell (.inl (by simp)) _
  have hb : b ∉ [n] := by simp; exact fun e => hn.2 e.symm
  exact ⟨hB, v, hk.cell hc hb, hk.frz hf h1 hb, hs.mono mByte (hk.below (by omega) (by simp; exact hn.1)) (Nat.le_refl _)⟩
theorem allocKg {w : World} {b o : Nat} {v : Value} (h : w.cell? ⟨b, o, none⟩ = some v) (x : Obj) : (w.alloc x).cell? ⟨b, o, none⟩ = some v := by rw [World.cell?_alloc_lt (h := lt_cell' h)]; exact h
/-- what Get answers -/
def getS (bs : List UInt8) : Option Fi := match bs with
  | [] => none
  | k :: rest => match fiP rest with
    | some (f, []) => if (k.toNat : Int) = 0 ∨ Bytes.form f ≠ k.toNat then none else some f
    | _ => none

/-- it answers so: a file and an errno -/
def Got (B : Nat) (r : Option Fi) (e : Ending) (w' : World) : Prop := ∃ v, e = .returned (.tuple #[v, .int .i64 (if r.isSome then 0 else 2)]) ∧ VFi w' w'.heap.size v (r.getD ⟨[], []⟩)

theorem nil_file (w : World) (B : Nat) : VFi w B (.agg #[.slice none 0 0, .slice none 0 0]) ⟨[], []⟩ :=
  ⟨_, _, rfl, ⟨none, 0, rfl, Nat.le_refl _, by omega, fun i h => absurd h (by simp)⟩, ⟨none, 0, rfl, Nat.le_refl _, by omega, fun i h => absurd h (by simp)⟩⟩

set_option maxRecDepth 100000 in
set_option maxHeartbeats 8000000 in
theorem get (bs : List UInt8) (vb : Value) (w : World) (h : Sl 1 EByte w w.heap.size vb bs) (hlen : bs.length ≤ 4000000) :
    Calls Try.prog 12 #[vb] w fun e w' => Got w.heap.size (getS bs) e w' ∧ Below w.heap.size w w' := by
  have hmf : ∀ (fn : Fn) (first cap : Array Value) (w : World), (Instr.makeFunc fn first cap).run Try.prog w = .ok (.func fn first cap) w := fun _ _ _ _ => rfl
  have hS := Lib.hid h
  obtain ⟨a, cap, rfl, hlc, hcc, hel⟩ := h
  rcases bs with _ | ⟨k, rest⟩
  · have HZ : Hid (getS [] = none) := rfl
    clear hel
    go_enter_defers Try.func12, Try.ntmps12
    go_wp2
    refine leaves_cons (f := 38) (args := #[.pointer (some ⟨w.heap.size, 0, none⟩), .pointer (some ⟨w.heap.size + 1, 0, none⟩)]) (by simp) (by simp [go_sem]) ?_
    refine (idle _ _ _).mono ?_
    rintro e u' w'' ⟨rfl, rfl, rfl⟩
    simp [Leaves, settle, results, Try.results12, go_sem]
    exact ⟨⟨_, rfl, nil_file _ _⟩, (by repeat' (first | with_reducible exact Below.refl _ _ | with_reducible assumption | exact Nat.le_refl _ | with_reducible refine Go.Proofs.Ytncmhenfgbcihab.Rd.below_drewN ?_ _ | with_reducible refine Below.alloc ?_ ?_ _ | with_reducible refine Below.setCell ?_ ?_ _ | with_reducible refine Below.drew ?_ | omega | (simp; omega) | (simp; done)))⟩
  · obtain ⟨g, o, rfl, hg, he0⟩ := hel 0 (by simp)
    have hk0 : w.cell? ⟨g, o, none⟩ = some (.int .u8 k.toNat) := by
      have : w.cell? ⟨g, o + 0 * 1, none⟩ = some (.int .u8 k.toNat) := he0
      simpa using this
    have hSr : Hid (∀ i (h : i < rest.length), w.cell? ⟨g, o + 1 + i, none⟩ = some (.int .u8 rest[i].toNat)) := fun i hi => by
      obtain ⟨g', o', hgo, _, he⟩ := hel (i + 1) (by simp; omega)
      injection hgo with hgo; injection hgo with h1 h2
      subst h1; subst h2
      have : w.cell? ⟨g, o + (i + 1) * 1, none⟩ = some (.int .u8 ((k :: rest)[i + 1]'(by simp; omega)).toNat) := he
      simpa [Nat.add_assoc, Nat.add_comm 1 i] using this
    simp only [List.length_cons] at hlc
    have hlb : ((rest.length + 1 : Nat) : Int) ≠ 0 := by omega
    have hlg := lt_cell' hk0
    clear hel he0
    go_enter_defers Try.func12, Try.ntmps12
    go_upto_region 4 with fail
    go_cut [4] from 10 to 13 (fun s4 wx => s4 = .pointer (some ⟨w.heap.size + 2, 0, none⟩) ∧ Hid (Below w.heap.size w wx) ∧ Hid (Rdr wx w.heap.size (w.heap.size + 2) rest) ∧ Hid (Blk wx w.heap.size [.slice none 0 0, .slice none 0 0]) ∧ Hid (Blk wx (w.heap.size + 1) [.int .i64 0]))
    case first =>
      by_cases hcap : cap = 1
      · subst hcap
        go_wp2_with fail
        go_meet
        case rel =>
          refine ⟨rfl, Lib.hid (by repeat' (first | with_reducible exact Below.refl _ _ | with_reducible assumption | exact Nat.le_refl _ | with_reducible refine Go.Proofs.Ytncmhenfgbcihab.Rd.below_drewN ?_ _ | with_reducible refine Below.alloc ?_ ?_ _ | with_reducible refine Below.setCell ?_ ?_ _ | with_reducible refine Below.drew ?_ | omega | (simp; omega) | (simp; done))), Lib.hid ⟨by omega, .slice (some ⟨g, o, none⟩) 0 0, by go_simp, by go_simp, ?_⟩, Lib.hid ?_, Lib.hid ?_⟩
          · exact ⟨_, 0, by rw [show rest.length = 0 by omega], by omega, by omega, fun i hi => absurd hi (by omega)⟩
          · intro j hj
            match j, hj with
            | 0, _ => exact ⟨by go_simp; try rfl, by go_simp⟩
            | 1, _ => exact ⟨by go_simp; try rfl, by go_simp⟩
          · intro j hj
            match j, hj with
            | 0, _ => exact ⟨by go_simp; try rfl, by go_simp⟩
      · go_wp2_with fail
        go_meet
        case rel =>
          refine ⟨rfl, Lib.hid (by repeat' (first | with_reducible exact Below.refl _ _ | with_reducible assumption | exact Nat.le_refl _ | with_reducible refine Go.Proofs.Ytncmhenfgbcihab.Rd.below_drewN ?_ _ | with_reducible refine Below.alloc ?_ ?_ _ | with_reducible refine Below.setCell ?_ ?_ _ | with_reducible refine Below.drew ?_ | omega | (simp; omega) | (simp; done))), Lib.hid ⟨by omega, .slice (some ⟨g, o + 1, none⟩) rest.length (cap - 1), by go_simp, by go_simp, ?_⟩, Lib.hid ?_, Lib.hid ?_⟩
          · refine ⟨_, cap - 1, rfl, by omega, by omega, fun i hi => ⟨g, o + 1, rfl, hg, ?_⟩⟩
            show _ = _
            rw [Nat.mul_one]
            exact allocKg (allocKg (allocKg (hSr.out i hi) _) _) _
          · intro j hj
            match j, hj with
            | 0, _ => exact ⟨by go_simp; try rfl, by go_simp⟩
            | 1, _ => exact ⟨by go_simp; try rfl, by go_simp⟩
          · intro j hj
            match j, hj with
            | 0, _ => exact ⟨by go_simp; try rfl, by go_simp⟩
    case rest =>
      obtain ⟨rfl, HB0, HR0, HF0, HE0⟩ := hcut
      have hrl : rest.length ≤ 4000000 := by simp at hlen; omega
      have hs0 := HB0.out.size
      have hr0 := HR0.out.lt
      go_wp2_with fail
      refine (itemsCl w.heap.size (w.heap.size + 2) rest _ HR0.out hrl).mono ?_
      rintro e w1 ⟨hk1, hp⟩
      have HB1 := Lib.hid (HB0.out.trans (hk1.below (by omega) (by simp <;> omega)))
      have HF1 := Lib.hid (HF0.out.next hk1 (by simp))
      have HE1 := Lib.hid (HE0.out.next hk1 (by simp))
      have hs1 := hk1.size
      clear hk1
      obtain ⟨r, HP1⟩ : ∃ r, Hid (lstP clP rest = r) := ⟨_, rfl⟩
      rw [HP1.out] at hp
      rcases r with _ | ⟨cl, r1⟩
      · have HN : Hid (getS (k :: rest) = none) := by
          show _ = _
          rw [getS, fiP, bind_none HP1.out]
        subst hp
        unfold shortE
        go_wp2_with fail
        refine leaves_cons (f := 38) (args := #[.pointer (some ⟨w.heap.size, 0, none⟩), .pointer (some ⟨w.heap.size + 1, 0, none⟩)]) (by simp) (by simp [go_sem]) ?_
        refine (caught w.heap.size (w.heap.size + 1) _ _ _ [] _ ⟨(HF1.out 0 (by simp)).1, (HF1.out 1 (by simp)).1, (HE1.out 0 (by simp)).1⟩ (by omega) ⟨(HF1.out 0 (by simp)).2, (HF1.out 1 (by simp)).2, (HE1.out 0 (by simp)).2⟩).mono ?_
        rintro e u' w'' ⟨rfl, rfl, rfl⟩
        have p1 := (HF1.out 0 (by simp)).1
        have p2 := (HF1.out 1 (by simp)).1
        have p3 := (HE1.out 0 (by simp)).1
        have l1 := lt_cell' p1
        have l3 := lt_cell' p3
        have hn0 : ¬ w.heap.size = w.heap.size + 1 := by omega
        have hn1 : ¬ w.heap.size + 1 = w.heap.size := by omega
        simp [Leaves, settle, results, Try.results12, go_sem, p1, p2, p3, l1, l3, hn0, hn1]
        refine ⟨⟨_, by rw [HN.out] <;> rfl, by rw [HN.out]; exact nil_file _ _⟩, ?_⟩
        exact HB1.out.trans (Below.trans (Below.setCell (Below.setCell (Below.setCell (Below.refl _ _) (by simp) _) (by simp) _) (by simp) _) (Below.alloc (Below.refl _ _) (by have := HB1.out.size; simp [World.setCell]; omega) _))
      obtain ⟨v, rfl, hsl, hR1⟩ := hp
      have HC1 := Lib.hid hsl
      obtain ⟨ca, ccap, rfl, hcc1, hcc2, _⟩ := hsl
      have H1 := Lib.hid hR1
      have hea1 := eats_lst cl_wrote _ _ _ HP1.out
      have q0 : w1.cell? ⟨w.heap.size, 0, none⟩ = some (.slice none 0 0) := (HF1.out 0 (by simp)).1
      have q1 : w1.frozen? ⟨w.heap.size, 0, none⟩ = false := (HF1.out 0 (by simp)).2
      clear hR1
      go_wp2_with fail
      refine callsR (fun W => Hid (Below w.heap.size w W) ∧ Hid (Rdr W w.heap.size (w.heap.size + 2) r1) ∧ Hid (Blk W w.heap.size [.slice ca cl.length ccap, .slice none 0 0]) ∧ Hid (Blk W (w.heap.size + 1) [.int .i64 0]) ∧ Hid (SlV VCl 2 W (Nw wc.heap.size w1.heap.size) (.slice ca cl.length ccap) cl) ∧ W.heap.size = w1.heap.size) ?_ ?_
      · refine ⟨Lib.hid (HB1.out.setCell (by simp) _), Lib.hid ((H1.out.next (X := []) (Wk.refl _ _) (by simp)).keepSet (by omega) _), Lib.hid (HF1.out.set 0 (by simp) _), Lib.hid (HE1.out.far (by omega) _), Lib.hid (HC1.out.stays sCl (fun k hk => ⟨hk, Below.heap_setCell _ _ _ _ (by show k ≠ w.heap.size; have := hk.1; omega)⟩)), by simp [World.setCell]⟩
      rintro w2 ⟨HB2, HR2, HF2, HE2, HC2, hw2⟩
      have hw2' : w1.heap.size ≤ w2.heap.size := by omega
      clear q0 q1
      refine (itemsMt w.heap.size (w.heap.size + 2) r1 _ HR2.out (by omega)).mono ?_
      rintro e w3 ⟨hk3, hp⟩
      have HB3 := Lib.hid (HB2.out.trans (hk3.below (by omega) (by simp <;> omega)))
      have HF3 := Lib.hid (HF2.out.next hk3 (by simp))
      have HE3 := Lib.hid (HE2.out.next hk3 (by simp))
      have HC3 := Lib.hid (HC2.out.stays sCl (fun k hk => ⟨hk, hk3.block k (by have := hk.2; omega) (by simp; have := hk.1; omega)⟩))
      have hs3 := hk3.size
      have HW2 := Lib.hid hw2
      clear hk3 hw2
      obtain ⟨r, HP3⟩ : ∃ r, Hid (lstP meP r1 = r) := ⟨_, rfl⟩
      rw [HP3.out] at hp
      rcases r with _ | ⟨ml, r3⟩
      · have HN : Hid (getS (k :: rest) = none) := by
          show _ = _
          rw [getS, fiP, bind_of HP1.out, bind_none HP3.out]
        subst hp
        unfold shortE
        go_wp2_with fail
        refine leaves_cons (f := 38) (args := #[.pointer (some ⟨w.heap.size, 0, none⟩), .pointer (some ⟨w.heap.size + 1, 0, none⟩)]) (by simp) (by simp [go_sem]) ?_
        refine (caught w.heap.size (w.heap.size + 1) _ _ _ [] _ ⟨(HF3.out 0 (by simp)).1, (HF3.out 1 (by simp)).1, (HE3.out 0 (by simp)).1⟩ (by omega) ⟨(HF3.out 0 (by simp)).2, (HF3.out 1 (by simp)).2, (HE3.out 0 (by simp)).2⟩).mono ?_
        rintro e u' w'' ⟨rfl, rfl, rfl⟩
        have p1 := (HF3.out 0 (by simp)).1
        have p2 := (HF3.out 1 (by simp)).1
        have p3 := (HE3.out 0 (by simp)).1
        have l1 := lt_cell' p1
        have l3 := lt_cell' p3
        have hn0 : ¬ w.heap.size = w.heap.size + 1 := by omega
        have hn1 : ¬ w.heap.size + 1 = w.heap.size := by omega
        simp [Leaves, settle, results, Try.results12, go_sem, p1, p2, p3, l1, l3, hn0, hn1]
        refine ⟨⟨_, by rw [HN.out] <;> rfl, by rw [HN.out]; exact nil_file _ _⟩, ?_⟩
        exact HB3.out.trans (Below.trans (Below.setCell (Below.setCell (Below.setCell (Below.refl _ _) (by simp) _) (by simp) _) (by simp) _) (Below.alloc (Below.refl _ _) (by have := HB3.out.size; simp [World.setCell]; omega) _))
      obtain ⟨v, rfl, hsl, hR3⟩ := hp
      have HM3 := Lib.hid hsl
      obtain ⟨ma, mcap, rfl, hmm1, hmm2, _⟩ := hsl
      have H3 := Lib.hid hR3
      have q0 : w3.cell? ⟨w.heap.size, 1, none⟩ = some (.slice none 0 0) := (HF3.out 1 (by simp)).1
      have q1 : w3.frozen? ⟨w.heap.size, 1, none⟩ = false := (HF3.out 1 (by simp)).2
      have HG : Hid (fiP rest = some (⟨cl, ml⟩, r3)) := by
        show _ = _
        rw [fiP, bind_of HP1.out, bind_of HP3.out]; rfl
      clear hR3
      go_wp2_with fail
      refine nameW (fun W => Hid (Below w.heap.size w W) ∧ Hid (Rdr W w.heap.size (w.heap.size + 2) r3) ∧ Hid (Blk W w.heap.size [.slice ca cl.length ccap, .slice ma ml.length mcap]) ∧ Hid (Blk W (w.heap.size + 1) [.int .i64 0]) ∧ Hid (SlV VCl 2 W (Nw (w.heap.size + 2) W.heap.size) (.slice ca cl.length ccap) cl) ∧ Hid (SlV VMt 8 W (Nw (w.heap.size + 2) W.heap.size) (.slice ma ml.length mcap) ml)) ?_ ?_
      · have hhs : (w3.setCell ⟨w.heap.size, 1, none⟩ (.slice ma ml.length mcap)).heap.size = w3.heap.size := by simp [World.setCell]
        have hC4 := HC3.out.stays sCl (w' := w3.setCell ⟨w.heap.size, 1, none⟩ (.slice ma ml.length mcap)) (P' := Nw (w.heap.size + 2) (w3.setCell ⟨w.heap.size, 1, none⟩ (.slice ma ml.length mcap)).heap.size) (fun k hk => ⟨⟨by have := hk.1; omega, by have := hk.2; have := HW2.out; omega⟩, Below.heap_setCell _ _ _ _ (by show k ≠ w.heap.size; have := hk.1; omega)⟩)
        have hM4 := HM3.out.stays sMt (w' := w3.setCell ⟨w.heap.size, 1, none⟩ (.slice ma ml.length mcap)) (P' := Nw (w.heap.size + 2) (w3.setCell ⟨w.heap.size, 1, none⟩ (.slice ma ml.length mcap)).heap.size) (fun k hk => ⟨⟨by have := hk.1; have := HW2.out; omega, by have := hk.2; omega⟩, Below.heap_setCell _ _ _ _ (by show k ≠ w.heap.size; have := hk.1; have := HW2.out; omega)⟩)
        exact ⟨Lib.hid (HB3.out.setCell (by simp) _), Lib.hid (H3.out.keepSet (by omega) _), Lib.hid (HF3.out.set 1 (by simp) _), Lib.hid (HE3.out.far (by omega) _), Lib.hid hC4, Lib.hid hM4⟩
      rintro w4 ⟨HB4, HR4, HF4, HE4, HC4, HM4⟩
      clear q0 q1
      have y0 : w4.cell? ⟨w.heap.size, 0, none⟩ = some (.slice ca cl.length ccap) := (HF4.out 0 (by simp)).1
      have y1 : w4.cell? ⟨w.heap.size, 1, none⟩ = some (.slice ma ml.length mcap) := (HF4.out 1 (by simp)).1
      have g0 : w4.frozen? ⟨w.heap.size, 0, none⟩ = false := (HF4.out 0 (by simp)).2
      have g1 : w4.frozen? ⟨w.heap.size, 1, none⟩ = false := (HF4.out 1 (by simp)).2
      have e0 : w4.cell? ⟨w.heap.size + 1, 0, none⟩ = some (.int .i64 0) := (HE4.out 0 (by simp)).1
      have e1 : w4.frozen? ⟨w.heap.size + 1, 0, none⟩ = false := (HE4.out 0 (by simp)).2
      have kb := kept HB4.out hlg hk0
      have hs4 := HB4.out.size
      have hn0 : ¬ w.heap.size = w.heap.size + 1 := by omega
      have hn1 : ¬ w.heap.size + 1 = w.heap.size := by omega
      have HR4' := HR4.out
      obtain ⟨_, v3, hv3, _, a3, cap3, rfl, hl3, hl3', _⟩ := HR4'
      by_cases hr3 : r3.length = 0
      · have hg3 : decide ((0 : Int) < r3.length) = false := by simp [hr3]
        have hg4 : decide (0 < r3.length) = false := by simp [hr3]
        by_cases hk00 : (k.toNat : Int) = 0
        · have HN : Hid (getS (k :: rest) = none) := by
            obtain rfl : r3 = [] := List.eq_nil_of_length_eq_zero hr3
            show _ = _
            simp only [getS, HG.out]
            rw [if_pos (.inl hk00)]
          have hkb : ((k.toNat : Int) == 0) = true := by rw [hk00]; rfl
          have HK00 := Lib.hid hk00
          clear hk00 hr3
          refine wp_region_noPanic ?_
          refine wp_region_held_drew (S := fun w' => w'.cell? ⟨w.heap.size + 2, 0, none⟩ = some (.slice a3 r3.length cap3) ∧ w'.cell? ⟨g, o, none⟩ = some (.int .u8 k.toNat) ∧ w'.cell? ⟨w.heap.size, 0, none⟩ = some (.slice ca cl.length ccap) ∧ w'.cell? ⟨w.heap.size, 1, none⟩ = some (.slice ma ml.length mcap)) (by kernel_rfl) (by (try dsimp only); exact ⟨hv3, kb, y0, y1⟩) (fun hHeld => ?_)
          refine Drawn.tk 0 (some 24) rfl rfl (by assumption) ?_
          try simp only [Act.put, List.setIfInBounds_toArray, List.set_cons_zero, List.set_cons_succ]
          refine Drawn.tk 1 (some 25) rfl rfl (by assumption) ?_
          try simp only [Act.put, List.setIfInBounds_toArray, List.set_cons_zero, List.set_cons_succ]
          refine Drawn.tk 2 (some 26) rfl rfl (by assumption) ?_
          try simp only [Act.put, List.setIfInBounds_toArray, List.set_cons_zero, List.set_cons_succ]
          refine Drawn.tk 3 (some 27) rfl rfl (by assumption) ?_
          try simp only [Act.put, List.setIfInBounds_toArray, List.set_cons_zero, List.set_cons_succ]
          refine Drawn.tk 4 (some 28) rfl rfl (by assumption) ?_
          try simp only [Act.put, List.setIfInBounds_toArray, List.set_cons_zero, List.set_cons_succ]
          refine Drawn.tk 5 (some 29) rfl rfl (by assumption) ?_
          try simp only [Act.put, List.setIfInBounds_toArray, List.set_cons_zero, List.set_cons_succ]
          refine Drawn.tk 6 (some 30) rfl rfl (by assumption) ?_
          try simp only [Act.put, List.setIfInBounds_toArray, List.set_cons_zero, List.set_cons_succ]
          refine Drawn.tk 7 (some 31) rfl rfl (by assumption) ?_
          try simp only [Act.put, List.setIfInBounds_toArray, List.set_cons_zero, List.set_cons_succ]
          refine Drawn.tk 8 (some 32) rfl rfl (by assumption) ?_
          try simp only [Act.put, List.setIfInBounds_toArray, List.set_cons_zero, List.set_cons_succ]
          refine Drawn.tk 9 (some 33) rfl rfl (by assumption) ?_
          try simp only [Act.put, List.setIfInBounds_toArray, List.set_cons_zero, List.set_cons_succ]
          refine Drawn.tk 10 (some 34) rfl rfl (by assumption) ?_
          try simp only [Act.put, List.setIfInBounds_toArray, List.set_cons_zero, List.set_cons_succ]
          refine Drawn.tk 11 (some 35) rfl rfl (by assumption) ?_
          try simp only [Act.put, List.setIfInBounds_toArray, List.set_cons_zero, List.set_cons_succ]
          refine Drawn.tk 12 (some 36) rfl rfl (by assumption) ?_
          try simp only [Act.put, List.setIfInBounds_toArray, List.set_cons_zero, List.set_cons_succ]
          refine Drawn.ps 13 (some 37) rfl rfl (by assumption) ?_
          try simp only [Act.put, List.setIfInBounds_toArray, List.set_cons_zero, List.set_cons_succ]
          refine Drawn.ps 14 (some 38) rfl rfl (by assumption) ?_
          try simp only [Act.put, List.setIfInBounds_toArray, List.set_cons_zero, List.set_cons_succ]
          refine Drawn.ps 15 (some 39) rfl rfl (by assumption) ?_
          try simp only [Act.put, List.setIfInBounds_toArray, List.set_cons_zero, List.set_cons_succ]
          refine Drawn.ps 16 (some 40) rfl rfl (by assumption) ?_
          try simp only [Act.put, List.setIfInBounds_toArray, List.set_cons_zero, List.set_cons_succ]
          refine Drawn.ps 17 (some 41) rfl rfl (by assumption) ?_
          try simp only [Act.put, List.setIfInBounds_toArray, List.set_cons_zero, List.set_cons_succ]
          refine Drawn.ps 18 (some 42) rfl rfl (by assumption) ?_
          try simp only [Act.put, List.setIfInBounds_toArray, List.set_cons_zero, List.set_cons_succ]
          refine Drawn.tk 19 (some 43) rfl rfl (by assumption) ?_
          try simp only [Act.put, List.setIfInBounds_toArray, List.set_cons_zero, List.set_cons_succ]
          refine wpAnyH_done (by kernel_rfl) ?_ _
          refine NoPanic.normal ?_
          go_wp2_with fail
          refine leaves_cons (f := 38) (args := #[.pointer (some ⟨w.heap.size, 0, none⟩), .pointer (some ⟨w.heap.size + 1, 0, none⟩)]) (by simp) (by simp [go_sem]) ?_
          refine (idle _ _ _).mono ?_
          rintro e u' w'' ⟨rfl, rfl, rfl⟩
          simp [Leaves, settle, results, Try.results12, go_sem, y0, y1, e0, hn0, hn1]
          refine ⟨⟨_, by rw [HN.out] <;> rfl, by rw [HN.out]; exact nil_file _ _⟩, ?_⟩
          exact HB4.out.trans (Below.setCell (Below.setCell (Below.setCell (Below.drew (Below.refl _ _)) (by simp) _) (by simp) _) (by simp) _)
        · have hkb : ((k.toNat : Int) == 0) = false := by rw [beq_eq_false_iff_ne]; exact hk00
          have HK00 := Lib.hid hk00
          have hr3e : Hid (r3 = []) := List.eq_nil_of_length_eq_zero hr3
          have hV4 : VFi w4 w4.heap.size (.agg #[.slice ca cl.length ccap, .slice ma ml.length mcap]) ⟨cl, ml⟩ := ⟨_, _, rfl, HC4.out.sl (eCl (fun k hk => hk.2)) (fun k hk => hk.2), HM4.out.sl (eMt (fun k hk => hk.2)) (fun k hk => hk.2)⟩
          have HV4 := Lib.hid hV4
          have hl0 := lt_cell' y0
          have hl1 := lt_cell' e0
          have hlb := lt_cell' kb
          have hl3 := lt_cell' hv3
          clear hk00 hr3 hV4
          refine wp_region_noPanic ?_
          refine wp_region_held_drew (S := fun w' => w'.cell? ⟨w.heap.size + 2, 0, none⟩ = some (.slice a3 r3.length cap3) ∧ w'.cell? ⟨g, o, none⟩ = some (.int .u8 k.toNat) ∧ w'.cell? ⟨w.heap.size, 0, none⟩ = some (.slice ca cl.length ccap) ∧ w'.cell? ⟨w.heap.size, 1, none⟩ = some (.slice ma ml.length mcap)) (by kernel_rfl) (by (try dsimp only); exact ⟨hv3, kb, y0, y1⟩) (fun hHeld => ?_)
          refine Drawn.tk 0 (some 24) rfl rfl (by assumption) ?_
          try simp only [Act.put, List.setIfInBounds_toArray, List.set_cons_zero, List.set_cons_succ]
          refine Drawn.tk 1 (some 25) rfl rfl (by assumption) ?_
          try simp only [Act.put, List.setIfInBounds_toArray, List.set_cons_zero, List.set_cons_succ]
          refine Drawn.tk 2 (some 26) rfl rfl (by assumption) ?_
          try simp only [Act.put, List.setIfInBounds_toArray, List.set_cons_zero, List.set_cons_succ]
          refine Drawn.tk 3 (some 27) rfl rfl (by assumption) ?_
          try simp only [Act.put, List.setIfInBounds_toArray, List.set_cons_zero, List.set_cons_succ]
          refine Drawn.tk 4 (some 28) rfl rfl (by assumption) ?_
          try simp only [Act.put, List.setIfInBounds_toArray, List.set_cons_zero, List.set_cons_succ]
          refine Drawn.tk 5 (some 29) rfl rfl (by assumption) ?_
          try simp only [Act.put, List.setIfInBounds_toArray, List.set_cons_zero, List.set_cons_succ]
          refine Drawn.tk 6 (some 30) rfl rfl (by assumption) ?_
          try simp only [Act.put, List.setIfInBounds_toArray, List.set_cons_zero, List.set_cons_succ]
          refine Drawn.tk 7 (some 31) rfl rfl (by assumption) ?_
          try simp only [Act.put, List.setIfInBounds_toArray, List.set_cons_zero, List.set_cons_succ]
          refine Drawn.tk 8 (some 32) rfl rfl (by assumption) ?_
          try simp only [Act.put, List.setIfInBounds_toArray, List.set_cons_zero, List.set_cons_succ]
          refine Drawn.tk 9 (some 33) rfl rfl (by assumption) ?_
          try simp only [Act.put, List.setIfInBounds_toArray, List.set_cons_zero, List.set_cons_succ]
          refine Drawn.tk 10 (some 34) rfl rfl (by assumption) ?_
          try simp only [Act.put, List.setIfInBounds_toArray, List.set_cons_zero, List.set_cons_succ]
          refine Drawn.tk 11 (some 35) rfl rfl (by assumption) ?_
          try simp only [Act.put, List.setIfInBounds_toArray, List.set_cons_zero, List.set_cons_succ]
          refine Drawn.tk 12 (some 36) rfl rfl (by assumption) ?_
          try simp only [Act.put, List.setIfInBounds_toArray, List.set_cons_zero, List.set_cons_succ]
          refine Drawn.tk 13 (some 37) rfl rfl (by assumption) ?_
          try simp only [Act.put, List.setIfInBounds_toArray, List.set_cons_zero, List.set_cons_succ]
          refine Drawn.tk 15 (some 39) rfl rfl (by assumption) ?_
          try simp only [Act.put, List.setIfInBounds_toArray, List.set_cons_zero, List.set_cons_succ]
          refine Drawn.tk 16 (some 40) rfl rfl (by assumption) ?_
          try simp only [Act.put, List.setIfInBounds_toArray, List.set_cons_zero, List.set_cons_succ]
          refine Drawn.tk 17 (some 41) rfl rfl (by assumption) ?_
          try simp only [Act.put, List.setIfInBounds_toArray, List.set_cons_zero, List.set_cons_succ]
          refine wpAnyH_ready (rs := [14]) (by kernel_rfl) (by simp) ?_
          refine AllReadyH.cons rfl (fun K hK => ?_) AllReadyH.nil
          go_simp
          go_at_call 30
          refine (wform ⟨cl, ml⟩ _ _ (by first | exact HV4.out | exact HV4.out.mono ((Below.refl _ _).drew) (Nat.le_refl _))).mono ?_
          rintro e w5 ⟨rfl, hb⟩
          replace hb : Below w4.heap.size w4 w5 := by first | exact hb | exact ((Below.refl _ _).drew).trans hb
          have x0 := kept hb hl0 y0
          have x1 := kept hb hl0 y1
          have x2 := kept hb hl1 e0
          have xk := kept hb hlb kb
          have x3 := kept hb hl3 hv3
          have z0 := (hb.frozen (p := ⟨w.heap.size, 0, none⟩) hl0).trans g0
          have z1 := (hb.frozen (p := ⟨w.heap.size, 1, none⟩) hl0).trans g1
          have z2 := (hb.frozen (p := ⟨w.heap.size + 1, 0, none⟩) hl1).trans e1
          have HB5 := Lib.hid (HB4.out.trans (hb.mono hs4))
          have HC5 := Lib.hid (HC4.out.stays sCl (w' := w5) (P' := Nw (w.heap.size + 2) w5.heap.size) (fun k hk => ⟨⟨hk.1, Nat.lt_of_lt_of_le hk.2 hb.size⟩, hb.block k hk.2⟩))
          have HM5 := Lib.hid (HM4.out.stays sMt (w' := w5) (P' := Nw (w.heap.size + 2) w5.heap.size) (fun k hk => ⟨⟨hk.1, Nat.lt_of_lt_of_le hk.2 hb.size⟩, hb.block k hk.2⟩))
          clear hb hv3 kb y0 y1 e0 g0 g1 e1
          go_wp2_with fail
          refine hK.out _ _ (by (try dsimp only); exact ⟨x3, xk, x0, x1⟩) (fun hHeld => ?_)
          clear hK K
          try simp only [Act.put, List.setIfInBounds_toArray, List.set_cons_zero, List.set_cons_succ]
          refine Drawn.tk 18 (some 42) rfl rfl (by assumption) ?_
          try simp only [Act.put, List.setIfInBounds_toArray, List.set_cons_zero, List.set_cons_succ]
          refine Drawn.tk 19 (some 43) rfl rfl (by assumption) ?_
          try simp only [Act.put, List.setIfInBounds_toArray, List.set_cons_zero, List.set_cons_succ]
          refine wpAnyH_done (by kernel_rfl) ?_ _
          refine NoPanic.normal ?_
          by_cases hff : Bytes.form ⟨cl, ml⟩ = k.toNat
          · have HN : Hid (getS (k :: rest) = some ⟨cl, ml⟩) := by
              show _ = _
              simp only [getS, HG.out, hr3e.out]
              rw [if_neg (by rintro (h | h); · exact HK00.out h
                             · exact h hff)]
            have hfb : (Bytes.form ⟨cl, ml⟩ == (k.toNat : Int)) = true := by rw [hff]; simp
            have hfc : (Bytes.form ⟨cl, ml⟩ != (k.toNat : Int)) = false := by rw [hff]; simp
            have HFF := Lib.hid hff
            clear hff
            go_wp2_with fail
            refine leaves_cons (f := 38) (args := #[.pointer (some ⟨w.heap.size, 0, none⟩), .pointer (some ⟨w.heap.size + 1, 0, none⟩)]) (by simp) (by simp [go_sem]) ?_
            refine (idle _ _ _).mono ?_
            rintro e u' w'' ⟨rfl, rfl, rfl⟩
            simp [Leaves, settle, results, Try.results12, go_sem, x0, x1, x2, hn0, hn1]
            have hfin : Below (w.heap.size) w5 _ := Below.setCell (Below.setCell (Below.setCell (Below.refl _ w5) (p := ⟨w.heap.size, 0, none⟩) (by simp) (.slice ca cl.length ccap)) (p := ⟨w.heap.size, 1, none⟩) (by simp) (.slice ma ml.length mcap)) (p := ⟨w.heap.size + 1, 0, none⟩) (by simp) (.int .i64 0)
            have hfw : Wk [w.heap.size, w.heap.size + 1] w5 _ := (((Wk.refl [w.heap.size, w.heap.size + 1] w5).setCell (p := ⟨w.heap.size, 0, none⟩) (.inl (by simp)) (.slice ca cl.length ccap)).setCell (p := ⟨w.heap.size, 1, none⟩) (.inl (by simp)) (.slice ma ml.length mcap)).setCell (p := ⟨w.heap.size + 1, 0, none⟩) (.inl (by simp)) (.int .i64 0)
            have hsz := hfw.size
            have hC6 := HC5.out.stays sCl (P' := Nw (w.heap.size + 2) _) (fun k hk => ⟨⟨hk.1, Nat.lt_of_lt_of_le hk.2 hsz⟩, hfw.block k hk.2 (by have := hk.1; simp; omega)⟩)
            have hM6 := HM5.out.stays sMt (P' := Nw (w.heap.size + 2) _) (fun k hk => ⟨⟨hk.1, Nat.lt_of_lt_of_le hk.2 hsz⟩, hfw.block k hk.2 (by have := hk.1; simp; omega)⟩)
            exact ⟨⟨_, by rw [HN.out] <;> rfl, by rw [HN.out]; exact ⟨_, _, rfl, hC6.sl (eCl (fun k hk => hk.2)) (fun k hk => hk.2), hM6.sl (eMt (fun k hk => hk.2)) (fun k hk => hk.2)⟩⟩, HB5.out.trans hfin⟩
          · have HN : Hid (getS (k :: rest) = none) := by
              show _ = _
              simp only [getS, HG.out, hr3e.out]
              rw [if_pos (.inr hff)]
            have hfb : (Bytes.form ⟨cl, ml⟩ == (k.toNat : Int)) = false := by rw [beq_eq_false_iff_ne]; exact hff
            have hfc : (Bytes.form ⟨cl, ml⟩ != (k.toNat : Int)) = true := by rw [bne_iff_ne]; exact hff
            have HFF := Lib.hid hff
            clear hff
            go_wp2_with fail
            refine leaves_cons (f := 38) (args := #[.pointer (some ⟨w.heap.size, 0, none⟩), .pointer (some ⟨w.heap.size + 1, 0, none⟩)]) (by simp) (by simp [go_sem]) ?_
            refine (idle _ _ _).mono ?_
            rintro e u' w'' ⟨rfl, rfl, rfl⟩
            simp [Leaves, settle, results, Try.results12, go_sem, x0, x1, x2, hn0, hn1]
            refine ⟨⟨_, by rw [HN.out] <;> rfl, by rw [HN.out]; exact nil_file _ _⟩, ?_⟩
            exact HB5.out.trans (Below.setCell (Below.setCell (Below.setCell (Below.refl _ _) (by simp) _) (by simp) _) (by simp) _)
      · have hg3 : decide ((0 : Int) < r3.length) = true := by simp; omega
        have hg4 : decide (0 < r3.length) = true := by simp; omega
        have HN : Hid (getS (k :: rest) = none) := by
          show _ = _
          simp only [getS, HG.out]
          match r3, hr3 with
          | [], h => exact absurd rfl h
          | _ :: _, _ => rfl
        clear hr3
        refine wp_region_noPanic ?_
        refine wp_region_held_drew (S := fun w' => w'.cell? ⟨w.heap.size + 2, 0, none⟩ = some (.slice a3 r3.length cap3) ∧ w'.cell? ⟨g, o, none⟩ = some (.int .u8 k.toNat) ∧ w'.cell? ⟨w.heap.size, 0, none⟩ = some (.slice ca cl.length ccap) ∧ w'.cell? ⟨w.heap.size, 1, none⟩ = some (.slice ma ml.length mcap)) (by kernel_rfl) (by (try dsimp only); exact ⟨hv3, kb, y0, y1⟩) (fun hHeld => ?_)
        refine Drawn.tk 0 (some 24) rfl rfl (by assumption) ?_
        try simp only [Act.put, List.setIfInBounds_toArray, List.set_cons_zero, List.set_cons_succ]
        refine Drawn.tk 1 (some 25) rfl rfl (by assumption) ?_
        try simp only [Act.put, List.setIfInBounds_toArray, List.set_cons_zero, List.set_cons_succ]
        refine Drawn.tk 2 (some 26) rfl rfl (by assumption) ?_
        try simp only [Act.put, List.setIfInBounds_toArray, List.set_cons_zero, List.set_cons_succ]
        refine Drawn.tk 3 (some 27) rfl rfl (by assumption) ?_
        try simp only [Act.put, List.setIfInBounds_toArray, List.set_cons_zero, List.set_cons_succ]
        refine Drawn.tk 4 (some 28) rfl rfl (by assumption) ?_
        try simp only [Act.put, List.setIfInBounds_toArray, List.set_cons_zero, List.set_cons_succ]
        refine Drawn.tk 5 (some 29) rfl rfl (by assumption) ?_
        try simp only [Act.put, List.setIfInBounds_toArray, List.set_cons_zero, List.set_cons_succ]
        refine Drawn.tk 6 (some 30) rfl rfl (by assumption) ?_
        try simp only [Act.put, List.setIfInBounds_toArray, List.set_cons_zero, List.set_cons_succ]
        refine Drawn.ps 7 (some 31) rfl rfl (by assumption) ?_
        try simp only [Act.put, List.setIfInBounds_toArray, List.set_cons_zero, List.set_cons_succ]
        refine Drawn.ps 8 (some 32) rfl rfl (by assumption) ?_
        try simp only [Act.put, List.setIfInBounds_toArray, List.set_cons_zero, List.set_cons_succ]
        refine Drawn.ps 9 (some 33) rfl rfl (by assumption) ?_
        try simp only [Act.put, List.setIfInBounds_toArray, List.set_cons_zero, List.set_cons_succ]
        refine Drawn.ps 10 (some 34) rfl rfl (by assumption) ?_
        try simp only [Act.put, List.setIfInBounds_toArray, List.set_cons_zero, List.set_cons_succ]
        refine Drawn.tk 11 (some 35) rfl rfl (by assumption) ?_
        try simp only [Act.put, List.setIfInBounds_toArray, List.set_cons_zero, List.set_cons_succ]
        refine Drawn.tk 12 (some 36) rfl rfl (by assumption) ?_
        try simp only [Act.put, List.setIfInBounds_toArray, List.set_cons_zero, List.set_cons_succ]
        refine Drawn.ps 13 (some 37) rfl rfl (by assumption) ?_
        try simp only [Act.put, List.setIfInBounds_toArray, List.set_cons_zero, List.set_cons_succ]
        refine Drawn.ps 14 (some 38) rfl rfl (by assumption) ?_
        try simp only [Act.put, List.setIfInBounds_toArray, List.set_cons_zero, List.set_cons_succ]
        refine Drawn.ps 15 (some 39) rfl rfl (by assumption) ?_
        try simp only [Act.put, List.setIfInBounds_toArray, List.set_cons_zero, List.set_cons_succ]
        refine Drawn.ps 16 (some 40) rfl rfl (by assumption) ?_
        try simp only [Act.put, List.setIfInBounds_toArray, List.set_cons_zero, List.set_cons_succ]
        refine Drawn.ps 17 (some 41) rfl rfl (by assumption) ?_
        try simp only [Act.put, List.setIfInBounds_toArray, List.set_cons_zero, List.set_cons_succ]
        refine Drawn.ps 18 (some 42) rfl rfl (by assumption) ?_
        try simp only [Act.put, List.setIfInBounds_toArray, List.set_cons_zero, List.set_cons_succ]
        refine Drawn.tk 19 (some 43) rfl rfl (by assumption) ?_
        try simp only [Act.put, List.setIfInBounds_toArray, List.set_cons_zero, List.set_cons_succ]
        refine wpAnyH_done (by kernel_rfl) ?_ _
        refine NoPanic.normal ?_
        go_wp2_with fail
        refine leaves_cons (f := 38) (args := #[.pointer (some ⟨w.heap.size, 0, none⟩), .pointer (some ⟨w.heap.size + 1, 0, none⟩)]) (by simp) (by simp [go_sem]) ?_
        refine (idle _ _ _).mono ?_
        rintro e u' w'' ⟨rfl, rfl, rfl⟩
        simp [Leaves, settle, results, Try.results12, go_sem, y0, y1, e0, hn0, hn1]
        refine ⟨⟨_, by rw [HN.out] <;> rfl, by rw [HN.out]; exact nil_file _ _⟩, ?_⟩
        exact HB4.out.trans (Below.setCell (Below.setCell (Below.setCell (Below.drew (Below.refl _ _)) (by simp) _) (by simp) _) (by simp) _)
end Wire
end Go.Proofs.Ytncmhenfgbcihab
