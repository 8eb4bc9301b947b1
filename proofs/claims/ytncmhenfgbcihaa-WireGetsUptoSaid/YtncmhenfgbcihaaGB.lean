/- The walk through wire.Get. -/
import Derived.Test.YtncmhenfgbcihaaGA
import Derived.Test.YtncmhenfgbcihaaGC
import Derived.Defers
import Derived.Recover
import Derived.Deep.Cut
import Derived.Deep.CutRange
import Derived.Deep.RegionHeld3
import Derived.Test.YtncmhenfgbcihaaDrawn
import Derived.Laws.Pointers
import Derived.Test.YtncmhenfgbcihaaWrL
import Derived.Laws.BytesString
import Derived.Laws.BytesArg
import Derived.Deep.QuietTactic
import Derived.BigQuiet
import Derived.Test.YtncmhenfgbcihaaRdO
import Derived.WalkKit
import Derived.ProofKit
import Derived.OpenShut
import Derived.JoinedCond
/- The walk through wire.Get. -/
namespace Go.Proofs.Ytncmhenfgbcihaa
open Go.RowKit
set_option linter.unusedSimpArgs false
set_option linter.unusedVariables false
namespace Wire
open Num Rd D Bytes HierW FormW

theorem assert_yes (w : World) : (Instr.typeAssert (.iface 94 (.agg #[])) 20 94 true).run Try.prog w = .ok (.tuple #[.agg #[], .bool true]) w := by kernel_rfl

set_option maxHeartbeats 1000000 in
theorem idle (p q : Addr) (w : World) : CallsD Try.prog 71 #[.pointer (some p), .pointer (some q)] .returning w fun e u' w' => e = .returned (.tuple #[]) ∧ u' = .returning ∧ w' = w := by
  refine callsD_of_wpS Try.func71 rfl fun c₀ cs hu => ?_
  apply wpS_seq
  apply wpS_region
  simp [wpOpsS, go_sem, recoverD, hu, Try.ntmps71, Exit.thenS]
  refine wpS_of_wp ?_
  go_wp2
  all_goals (cases c₀; simp_all [bodyPostS, results, Try.results71])

set_option maxRecDepth 100000 in
set_option maxHeartbeats 1000000 in
theorem caught (n m : Nat) (a b : Value) (x : Int) (older : List PanicEntry) (w : World) (h0 : w.cell? ⟨n, 0, none⟩ = some a ∧ w.cell? ⟨n, 1, none⟩ = some b ∧ w.cell? ⟨m, 0, none⟩ = some (.int .i64 x)) (hnm : ¬ n = m) (hf : w.frozen? ⟨n, 0, none⟩ = false ∧ w.frozen? ⟨n, 1, none⟩ = false ∧ w.frozen? ⟨m, 0, none⟩ = false) :
    CallsD Try.prog 71 #[.pointer (some ⟨n, 0, none⟩), .pointer (some ⟨m, 0, none⟩)] (.panicking ({ v := .iface 94 (.agg #[]), recovered := false } :: older)) w fun e u' w' =>
      e = .returned (.tuple #[]) ∧ u' = .panicking ({ v := .iface 94 (.agg #[]), recovered := true } :: older) ∧ w' = (((w.setCell ⟨n, 0, none⟩ (.slice none 0 0)).setCell ⟨n, 1, none⟩ (.slice none 0 0)).setCell ⟨m, 0, none⟩ (.int .i64 2)).alloc (.cells #[] 94) := by
  have hta := assert_yes
  obtain ⟨h1, h2, h3⟩ := h0
  obtain ⟨f1, f2, f3⟩ := hf
  have hn := lt_cell' h1
  have hm := lt_cell' h3
  refine callsD_of_wpS Try.func71 rfl fun c₀ cs hu => ?_
  apply wpS_seq
  apply wpS_region
  simp [wpOpsS, go_sem, recoverD, hu, Try.ntmps71, Exit.thenS]
  rw [show (Array.replicate 15 undef : Array Value) = #[undef, undef, undef, undef, undef, undef, undef, undef, undef, undef, undef, undef, undef, undef, undef] from rfl]
  simp only [List.setIfInBounds_toArray, List.set_cons_succ, List.set_cons_zero, List.append_toArray, List.cons_append, List.nil_append]
  refine wpS_of_wp ?_
  go_wp2
  simp [bodyPostS, results, Try.results71]

theorem Rdr.keepSet {w : World} {B b : Nat} {bs : List UInt8} (h : Rdr w B b bs) {n o : Nat} (hn : B ≤ n ∧ n ≠ b) (x : Value) : Rdr (w.setCell ⟨n, o, none⟩ x) B b bs := by
  have h1 := h.lt
  obtain ⟨hB, v, hc, hf, hs⟩ := h
  have hk : Wk [n] w (w.setCell ⟨n, o, none⟩ x) := (Wk.refl _ _).setCell (.inl (by simp)) _
  have hb : b ∉ [n] := by simp; exact fun e => hn.2 e.symm
  exact ⟨hB, v, hk.cell hc hb, hk.frz hf h1 hb, hs.mono mByte (hk.below (by omega) (by simp; exact hn.1)) (Nat.le_refl _)⟩
theorem allocKg {w : World} {b o : Nat} {v : Value} (h : w.cell? ⟨b, o, none⟩ = some v) (x : Obj) : (w.alloc x).cell? ⟨b, o, none⟩ = some v := by rw [World.cell?_alloc_lt (h := lt_cell' h)]; exact h
/-- what Get answers -/
def getS (bs : List UInt8) : Option Fi := match bs with
  | [] => none
  | k :: rest => match fiP rest with
    | some (f, []) => if (k.toNat : Int) = 0 ∨ Bytes.form f ≠ k.toNat then none else some f
    | _ => none

/-- it answers so: a file and an errno -/
def Got (B : Nat) (r : Option Fi) (e : Ending) (w' : World) : Prop := ∃ v, e = .returned (.tuple #[v, .int .i64 (if r.isSome then 0 else 2)]) ∧ VFi w' w'.heap.size v (r.getD ⟨[], []⟩)

theorem nil_file (w : World) (B : Nat) : VFi w B (.agg #[.slice none 0 0, .slice none 0 0]) ⟨[], []⟩ :=
  ⟨_, _, rfl, ⟨none, 0, rfl, Nat.le_refl _, by omega, fun i h => absurd h (by simp)⟩, ⟨none, 0, rfl, Nat.le_refl _, by omega, fun i h => absurd h (by simp)⟩⟩

set_option maxRecDepth 100000 in
set_option maxHeartbeats 8000000 in
theorem get (bs : List UInt8) (vb : Value) (w : World) (h : Sl 1 EByte w w.heap.size vb bs) (hlen : bs.length ≤ 4000000) :
    Calls Try.prog 37 #[vb] w fun e w' => Got w.heap.size (getS bs) e w' ∧ Below w.heap.size w w' := by
  have hmf : ∀ (fn : Fn) (first cap : Array Value) (w : World), (Instr.makeFunc fn first cap).run Try.prog w = .ok (.func fn first cap) w := fun _ _ _ _ => rfl
  have hS := Lib.hid h
  obtain ⟨a, cap, rfl, hlc, hcc, hel⟩ := h
  rcases bs with _ | ⟨k, rest⟩
  · have HZ : Hid (getS [] = none) := rfl
    clear hel
    go_enter_defers Try.func37, Try.ntmps37
    go_wp2
    refine leaves_cons (f := 71) (args := #[.pointer (some ⟨w.heap.size, 0, none⟩), .pointer (some ⟨w.heap.size + 1, 0, none⟩)]) (by simp) (by simp [go_sem]) ?_
    refine (idle _ _ _).mono ?_
    rintro e u' w'' ⟨rfl, rfl, rfl⟩
    simp [Leaves, settle, results, Try.results37, go_sem]
    exact ⟨⟨_, rfl, nil_file _ _⟩, (by repeat' (first | with_reducible exact Below.refl _ _ | with_reducible assumption | exact Nat.le_refl _ | with_reducible refine Go.Proofs.Ytncmhenfgbcihaa.Rd.below_drewN ?_ _ | with_reducible refine Below.alloc ?_ ?_ _ | with_reducible refine Below.setCell ?_ ?_ _ | with_reducible refine Below.drew ?_ | omega | (simp; omega) | (simp; done)))⟩
  · obtain ⟨g, o, rfl, hg, he0⟩ := hel 0 (by simp)
    have hk0 : w.cell? ⟨g, o, none⟩ = some (.int .u8 k.toNat) := by
      have : w.cell? ⟨g, o + 0 * 1, none⟩ = some (.int .u8 k.toNat) := he0
      simpa using this
    have hSr : Hid (∀ i (h : i < rest.length), w.cell? ⟨g, o + 1 + i, none⟩ = some (.int .u8 rest[i].toNat)) := fun i hi => by
      obtain ⟨g', o', hgo, _, he⟩ := hel (i + 1) (by simp; omega)
      injection hgo with hgo; injection hgo with h1 h2
      subst h1; subst h2
      have : w.cell? ⟨g, o + (i + 1) * 1, none⟩ = some (.int .u8 ((k :: rest)[i + 1]'(by simp; omega)).toNat) := he
      simpa [Nat.add_assoc, Nat.add_comm 1 i] using this
    simp only [List.length_cons] at hlc
    have hlb : ((rest.length + 1 : Nat) : Int) ≠ 0 := by omega
    have hlg := lt_cell' hk0
    clear hel he0
    go_enter_defers Try.func37, Try.ntmps37
    go_upto_region 4 with fail
    go_cut [4] from 10 to 13 (fun s4 wx => s4 = .pointer (some ⟨w.heap.size + 2, 0, none⟩) ∧ Hid (Below w.heap.size w wx) ∧ Hid (Rdr wx w.heap.size (w.heap.size + 2) rest) ∧ Hid (Blk wx w.heap.size [.slice none 0 0, .slice none 0 0]) ∧ Hid (Blk wx (w.heap.size + 1) [.int .i64 0]))
    case first =>
      by_cases hcap : cap = 1
      · subst hcap
        go_wp2_with fail
        go_meet
        case rel =>
          refine ⟨rfl, Lib.hid (by repeat' (first | with_reducible exact Below.refl _ _ | with_reducible assumption | exact Nat.le_refl _ | with_reducible refine Go.Proofs.Ytncmhenfgbcihaa.Rd.below_drewN ?_ _ | with_reducible refine Below.alloc ?_ ?_ _ | with_reducible refine Below.setCell ?_ ?_ _ | with_reducible refine Below.drew ?_ | omega | (simp; omega) | (simp; done))), Lib.hid ⟨by omega, .slice (some ⟨g, o, none⟩) 0 0, by go_simp, by go_simp, ?_⟩, Lib.hid ?_, Lib.hid ?_⟩
          · exact ⟨_, 0, by rw [show rest.length = 0 by omega], by omega, by omega, fun i hi => absurd hi (by omega)⟩
          · intro j hj
            match j, hj with
            | 0, _ => exact ⟨by go_simp; try rfl, by go_simp⟩
            | 1, _ => exact ⟨by go_simp; try rfl, by go_simp⟩
          · intro j hj
            match j, hj with
            | 0, _ => exact ⟨by go_simp; try rfl, by go_simp⟩
      · go_wp2_with fail
        go_meet
        case rel =>
          refine ⟨rfl, Lib.hid (by repeat' (first | with_reducible exact Below.refl _ _ | with_reducible assumption | exact Nat.le_refl _ | with_reducible refine Go.Proofs.Ytncmhenfgbcihaa.Rd.below_drewN ?_ _ | with_reducible refine Below.alloc ?_ ?_ _ | with_reducible refine Below.setCell ?_ ?_ _ | with_reducible refine Below.drew ?_ | omega | (simp; omega) | (simp; done))), Lib.hid ⟨by omega, .slice (some ⟨g, o + 1, none⟩) rest.length (cap - 1), by go_simp, by go_simp, ?_⟩, Lib.hid ?_, Lib.hid ?_⟩
          · refine ⟨_, cap - 1, rfl, by omega, by omega, fun i hi => ⟨g, o + 1, rfl, hg, ?_⟩⟩
            show _ = _
            rw [Nat.mul_one]
            exact allocKg (allocKg (allocKg (hSr.out i hi) _) _) _
          · intro j hj
            match j, hj with
            | 0, _ => exact ⟨by go_simp; try rfl, by go_simp⟩
            | 1, _ => exact ⟨by go_simp; try rfl, by go_simp⟩
          · intro j hj
            match j, hj with
            | 0, _ => exact ⟨by go_simp; try rfl, by go_simp⟩
    case rest =>
      obtain ⟨rfl, HB0, HR0, HF0, HE0⟩ := hcut
      have hrl : rest.length ≤ 4000000 := by simp at hlen; omega
      have hs0 := HB0.out.size
      have hr0 := HR0.out.lt
      go_wp2_with fail
      refine (itemsCl w.heap.size (w.heap.size + 2) rest _ HR0.out hrl).mono ?_
      rintro e w1 ⟨hk1, hp⟩
      have HB1 := Lib.hid (HB0.out.trans (hk1.below (by omega) (by simp <;> omega)))
      have HF1 := Lib.hid (HF0.out.next hk1 (by simp))
      have HE1 := Lib.hid (HE0.out.next hk1 (by simp))
      have hs1 := hk1.size
      clear hk1
      obtain ⟨r, HP1⟩ : ∃ r, Hid (lstP clP rest = r) := ⟨_, rfl⟩
      rw [HP1.out] at hp
      rcases r with _ | ⟨cl, r1⟩
      · have HN : Hid (getS (k :: rest) = none) := by
          show _ = _
          rw [getS, fiP, bind_none HP1.out]
        subst hp
        unfold shortE
        go_wp2_with fail
        refine leaves_cons (f := 71) (args := #[.pointer (some ⟨w.heap.size, 0, none⟩), .pointer (some ⟨w.heap.size + 1, 0, none⟩)]) (by simp) (by simp [go_sem]) ?_
        refine (caught w.heap.size (w.heap.size + 1) _ _ _ [] _ ⟨(HF1.out 0 (by simp)).1, (HF1.out 1 (by simp)).1, (HE1.out 0 (by simp)).1⟩ (by omega) ⟨(HF1.out 0 (by simp)).2, (HF1.out 1 (by simp)).2, (HE1.out 0 (by simp)).2⟩).mono ?_
        rintro e u' w'' ⟨rfl, rfl, rfl⟩
        have p1 := (HF1.out 0 (by simp)).1
        have p2 := (HF1.out 1 (by simp)).1
        have p3 := (HE1.out 0 (by simp)).1
        have l1 := lt_cell' p1
        have l3 := lt_cell' p3
        have hn0 : ¬ w.heap.size = w.heap.size + 1 := by omega
        have hn1 : ¬ w.heap.size + 1 = w.heap.size := by omega
        simp [Leaves, settle, results, Try.results37, go_sem, p1, p2, p3, l1, l3, hn0, hn1]
        refine ⟨⟨_, by rw [HN.out] <;> rfl, by rw [HN.out]; exact nil_file _ _⟩, ?_⟩
        exact HB1.out.trans (Below.trans (Below.setCell (Below.setCell (Below.setCell (Below.refl _ _) (by simp) _) (by simp) _) (by simp) _) (Below.alloc (Below.refl _ _) (by have := HB1.out.size; simp [World.setCell]; omega) _))
      obtain ⟨v, rfl, hsl, hR1⟩ := hp
      have HC1 := Lib.hid hsl
      obtain ⟨ca, ccap, rfl, hcc1, hcc2, _⟩ := hsl
      have H1 := Lib.hid hR1
      have hea1 := eats_lst cl_wrote _ _ _ HP1.out
      have q0 : w1.cell? ⟨w.heap.size, 0, none⟩ = some (.slice none 0 0) := (HF1.out 0 (by simp)).1
      have q1 : w1.frozen? ⟨w.heap.size, 0, none⟩ = false := (HF1.out 0 (by simp)).2
      clear hR1
      go_wp2_with fail
      refine callsR (fun W => Hid (Below w.heap.size w W) ∧ Hid (Rdr W w.heap.size (w.heap.size + 2) r1) ∧ Hid (Blk W w.heap.size [.slice ca cl.length ccap, .slice none 0 0]) ∧ Hid (Blk W (w.heap.size + 1) [.int .i64 0]) ∧ Hid (SlV VCl 2 W (Nw wc.heap.size w1.heap.size) (.slice ca cl.length ccap) cl) ∧ W.heap.size = w1.heap.size) ?_ ?_
      · refine ⟨Lib.hid (HB1.out.setCell (by simp) _), Lib.hid ((H1.out.next (X := []) (Wk.refl _ _) (by simp)).keepSet (by omega) _), Lib.hid (HF1.out.set 0 (by simp) _), Lib.hid (HE1.out.far (by omega) _), Lib.hid (HC1.out.stays sCl (fun k hk => ⟨hk, Below.heap_setCell _ _ _ _ (by show k ≠ w.heap.size; have := hk.1; omega)⟩)), by simp [World.setCell]⟩
      rintro w2 ⟨HB2, HR2, HF2, HE2, HC2, hw2⟩
      have hw2' : w1.heap.size ≤ w2.heap.size := by omega
      clear q0 q1
      refine (itemsMt w.heap.size (w.heap.size + 2) r1 _ HR2.out (by omega)).mono ?_
      rintro e w3 ⟨hk3, hp⟩
      have HB3 := Lib.hid (HB2.out.trans (hk3.below (by omega) (by simp <;> omega)))
      have HF3 := Lib.hid (HF2.out.next hk3 (by simp))
      have HE3 := Lib.hid (HE2.out.next hk3 (by simp))
      have HC3 := Lib.hid (HC2.out.stays sCl (fun k hk => ⟨hk, hk3.block k (by have := hk.2; omega) (by simp; have := hk.1; omega)⟩))
      have hs3 := hk3.size
      have HW2 := Lib.hid hw2
      clear hk3 hw2
      obtain ⟨r, HP3⟩ : ∃ r, Hid (lstP meP r1 = r) := ⟨_, rfl⟩
      rw [HP3.out] at hp
      rcases r with _ | ⟨ml, r3⟩
      · have HN : Hid (getS (k :: rest) = none) := by
          show _ = _
          rw [getS, fiP, bind_of HP1.out, bind_none HP3.out]
        subst hp
        unfold shortE
        go_wp2_with fail
        refine leaves_cons (f := 71) (args := #[.pointer (some ⟨w.heap.size, 0, none⟩), .pointer (some ⟨w.heap.size + 1, 0, none⟩)]) (by simp) (by simp [go_sem]) ?_
        refine (caught w.heap.size (w.heap.size + 1) _ _ _ [] _ ⟨(HF3.out 0 (by simp)).1, (HF3.out 1 (by simp)).1, (HE3.out 0 (by simp)).1⟩ (by omega) ⟨(HF3.out 0 (by simp)).2, (HF3.out 1 (by simp)).2, (HE3.out 0 (by simp)).2⟩).mono ?_
        rintro e u' w'' ⟨rfl, rfl, rfl⟩
        have p1 := (HF3.out 0 (by simp)).1
        have p2 := (HF3.out 1 (by simp)).1
        have p3 := (HE3.out 0 (by simp)).1
        have l1 := lt_cell' p1
        have l3 := lt_cell' p3
        have hn0 : ¬ w.heap.size = w.heap.size + 1 := by omega
        have hn1 : ¬ w.heap.size + 1 = w.heap.size := by omega
        simp [Leaves, settle, results, Try.results37, go_sem, p1, p2, p3, l1, l3, hn0, hn1]
        refine ⟨⟨_, by rw [HN.out] <;> rfl, by rw [HN.out]; exact nil_file _ _⟩, ?_⟩
        exact HB3.out.trans (Below.trans (Below.setCell (Below.setCell (Below.setCell (Below.refl _ _) (by simp) _) (by simp) _) (by simp) _) (Below.alloc (Below.refl _ _) (by have := HB3.out.size; simp [World.setCell]; omega) _))
      obtain ⟨v, rfl, hsl, hR3⟩ := hp
      have HM3 := Lib.hid hsl
      obtain ⟨ma, mcap, rfl, hmm1, hmm2, _⟩ := hsl
      have H3 := Lib.hid hR3
      have q0 : w3.cell? ⟨w.heap.size, 1, none⟩ = some (.slice none 0 0) := (HF3.out 1 (by simp)).1
      have q1 : w3.frozen? ⟨w.heap.size, 1, none⟩ = false := (HF3.out 1 (by simp)).2
      have HG : Hid (fiP rest = some (⟨cl, ml⟩, r3)) := by
        show _ = _
        rw [fiP, bind_of HP1.out, bind_of HP3.out]; rfl
      clear hR3
      go_wp2_with fail
      refine nameW (fun W => Hid (Below w.heap.size w W) ∧ Hid (Rdr W w.heap.size (w.heap.size + 2) r3) ∧ Hid (Blk W w.heap.size [.slice ca cl.length ccap, .slice ma ml.length mcap]) ∧ Hid (Blk W (w.heap.size + 1) [.int .i64 0]) ∧ Hid (SlV VCl 2 W (Nw (w.heap.size + 2) W.heap.size) (.slice ca cl.length ccap) cl) ∧ Hid (SlV VMt 8 W (Nw (w.heap.size + 2) W.heap.size) (.slice ma ml.length mcap) ml)) ?_ ?_
      · have hhs : (w3.setCell ⟨w.heap.size, 1, none⟩ (.slice ma ml.length mcap)).heap.size = w3.heap.size := by simp [World.setCell]
        have hC4 := HC3.out.stays sCl (w' := w3.setCell ⟨w.heap.size, 1, none⟩ (.slice ma ml.length mcap)) (P' := Nw (w.heap.size + 2) (w3.setCell ⟨w.heap.size, 1, none⟩ (.slice ma ml.length mcap)).heap.size) (fun k hk => ⟨⟨by have := hk.1; omega, by have := hk.2; have := HW2.out; omega⟩, Below.heap_setCell _ _ _ _ (by show k ≠ w.heap.size; have := hk.1; omega)⟩)
        have hM4 := HM3.out.stays sMt (w' := w3.setCell ⟨w.heap.size, 1, none⟩ (.slice ma ml.length mcap)) (P' := Nw (w.heap.size + 2) (w3.setCell ⟨w.heap.size, 1, none⟩ (.slice ma ml.length mcap)).heap.size) (fun k hk => ⟨⟨by have := hk.1; have := HW2.out; omega, by have := hk.2; omega⟩, Below.heap_setCell _ _ _ _ (by show k ≠ w.heap.size; have := hk.1; have := HW2.out; omega)⟩)
        exact ⟨Lib.hid (HB3.out.setCell (by simp) _), Lib.hid (H3.out.keepSet (by omega) _), Lib.hid (HF3.out.set 1 (by simp) _), Lib.hid (HE3.out.far (by omega) _), Lib.hid hC4, Lib.hid hM4⟩
      rintro w4 ⟨HB4, HR4, HF4, HE4, HC4, HM4⟩
      clear q0 q1
      have y0 : w4.cell? ⟨w.heap.size, 0, none⟩ = some (.slice ca cl.length ccap) := (HF4.out 0 (by simp)).1
      have y1 : w4.cell? ⟨w.heap.size, 1, none⟩ = some (.slice ma ml.length mcap) := (HF4.out 1 (by simp)).1
      have g0 : w4.frozen? ⟨w.heap.size, 0, none⟩ = false := (HF4.out 0 (by simp)).2
      have g1 : w4.frozen? ⟨w.heap.size, 1, none⟩ = false := (HF4.out 1 (by simp)).2
      have e0 : w4.cell? ⟨w.heap.size + 1, 0, none⟩ = some (.int .i64 0) := (HE4.out 0 (by simp)).1
      have e1 : w4.frozen? ⟨w.heap.size + 1, 0, none⟩ = false := (HE4.out 0 (by simp)).2
      have kb := kept HB4.out hlg hk0
      have hs4 := HB4.out.size
      have hn0 : ¬ w.heap.size = w.heap.size + 1 := by omega
      have hn1 : ¬ w.heap.size + 1 = w.heap.size := by omega
      have HR4' := HR4.out
      obtain ⟨_, v3, hv3, _, a3, cap3, rfl, hl3, hl3', _⟩ := HR4'
      by_cases hr3 : r3.length = 0
      · have hg3 : decide ((0 : Int) < r3.length) = false := by simp [hr3]
        have hg4 : decide (0 < r3.length) = false := by simp [hr3]
        by_cases hk00 : (k.toNat : Int) = 0
        · have HN : Hid (getS (k :: rest) = none) := by
            obtain rfl : r3 = [] := List.eq_nil_of_length_eq_zero hr3
            show _ = _
            simp only [getS, HG.out]
            rw [if_pos (.inl hk00)]
          have hkb : ((k.toNat : Int) == 0) = true := by rw [hk00]; rfl
          have HK00 := Lib.hid hk00
          clear hk00 hr3
          refine wp_region_noPanic ?_
          refine wp_region_held_drew (S := fun w' => w'.cell? ⟨w.heap.size + 2, 0, none⟩ = some (.slice a3 r3.length cap3) ∧ w'.cell? ⟨g, o, none⟩ = some (.int .u8 k.toNat) ∧ w'.cell? ⟨w.heap.size, 0, none⟩ = some (.slice ca cl.length ccap) ∧ w'.cell? ⟨w.heap.size, 1, none⟩ = some (.slice ma ml.length mcap)) (by kernel_rfl) (by (try dsimp only); exact ⟨hv3, kb, y0, y1⟩) (fun hHeld => ?_)
          refine Drawn.tk 0 (some 24) rfl rfl (by assumption) ?_
          try simp only [Act.put, List.setIfInBounds_toArray, List.set_cons_zero, List.set_cons_succ]
          refine Drawn.tk 1 (some 25) rfl rfl (by assumption) ?_
          try simp only [Act.put, List.setIfInBounds_toArray, List.set_cons_zero, List.set_cons_succ]
          refine Drawn.tk 2 (some 26) rfl rfl (by assumption) ?_
          try simp only [Act.put, List.setIfInBounds_toArray, List.set_cons_zero, List.set_cons_succ]
          refine Drawn.tk 3 (some 27) rfl rfl (by assumption) ?_
          try simp only [Act.put, List.setIfInBounds_toArray, List.set_cons_zero, List.set_cons_succ]
          refine Drawn.tk 4 (some 28) rfl rfl (by assumption) ?_
          try simp only [Act.put, List.setIfInBounds_toArray, List.set_cons_zero, List.set_cons_succ]
          refine Drawn.tk 5 (some 29) rfl rfl (by assumption) ?_
          try simp only [Act.put, List.setIfInBounds_toArray, List.set_cons_zero, List.set_cons_succ]
          refine Drawn.tk 6 (some 30) rfl rfl (by assumption) ?_
          try simp only [Act.put, List.setIfInBounds_toArray, List.set_cons_zero, List.set_cons_succ]
          refine Drawn.tk 7 (some 31) rfl rfl (by assumption) ?_
          try simp only [Act.put, List.setIfInBounds_toArray, List.set_cons_zero, List.set_cons_succ]
          refine Drawn.tk 8 (some 32) rfl rfl (by assumption) ?_
          try simp only [Act.put, List.setIfInBounds_toArray, List.set_cons_zero, List.set_cons_succ]
          refine Drawn.tk 9 (some 33) rfl rfl (by assumption) ?_
          try simp only [Act.put, List.setIfInBounds_toArray, List.set_cons_zero, List.set_cons_succ]
          refine Drawn.tk 10 (some 34) rfl rfl (by assumption) ?_
          try simp only [Act.put, List.setIfInBounds_toArray, List.set_cons_zero, List.set_cons_succ]
          refine Drawn.tk 11 (some 35) rfl rfl (by assumption) ?_
          try simp only [Act.put, List.setIfInBounds_toArray, List.set_cons_zero, List.set_cons_succ]
          refine Drawn.tk 12 (some 36) rfl rfl (by assumption) ?_
          try simp only [Act.put, List.setIfInBounds_toArray, List.set_cons_zero, List.set_cons_succ]
          refine Drawn.ps 13 (some 37) rfl rfl (by assumption) ?_
          try simp only [Act.put, List.setIfInBounds_toArray, List.set_cons_zero, List.set_cons_succ]
          refine Drawn.ps 14 (some 38) rfl rfl (by assumption) ?_
          try simp only [Act.put, List.setIfInBounds_toArray, List.set_cons_zero, List.set_cons_succ]
          refine Drawn.ps 15 (some 39) rfl rfl (by assumption) ?_
          try simp only [Act.put, List.setIfInBounds_toArray, List.set_cons_zero, List.set_cons_succ]
          refine Drawn.ps 16 (some 40) rfl rfl (by assumption) ?_
          try simp only [Act.put, List.setIfInBounds_toArray, List.set_cons_zero, List.set_cons_succ]
          refine Drawn.ps 17 (some 41) rfl rfl (by assumption) ?_
          try simp only [Act.put, List.setIfInBounds_toArray, List.set_cons_zero, List.set_cons_succ]
          refine Drawn.ps 18 (some 42) rfl rfl (by assumption) ?_
          try simp only [Act.put, List.setIfInBounds_toArray, List.set_cons_zero, List.set_cons_succ]
          refine Drawn.tk 19 (some 43) rfl rfl (by assumption) ?_
          try simp only [Act.put, List.setIfInBounds_toArray, List.set_cons_zero, List.set_cons_succ]
          refine wpAnyH_done (by kernel_rfl) ?_ _
          refine NoPanic.normal ?_
          go_wp2_with fail
          refine leaves_cons (f := 71) (args := #[.pointer (some ⟨w.heap.size, 0, none⟩), .pointer (some ⟨w.heap.size + 1, 0, none⟩)]) (by simp) (by simp [go_sem]) ?_
          refine (idle _ _ _).mono ?_
          rintro e u' w'' ⟨rfl, rfl, rfl⟩
          simp [Leaves, settle, results, Try.results37, go_sem, y0, y1, e0, hn0, hn1]
          refine ⟨⟨_, by rw [HN.out] <;> rfl, by rw [HN.out]; exact nil_file _ _⟩, ?_⟩
          exact HB4.out.trans (Below.setCell (Below.setCell (Below.setCell (Below.drew (Below.refl _ _)) (by simp) _) (by simp) _) (by simp) _)
        · have hkb : ((k.toNat : Int) == 0) = false := by rw [beq_eq_false_iff_ne]; exact hk00
          have HK00 := Lib.hid hk00
          have hr3e : Hid (r3 = []) := List.eq_nil_of_length_eq_zero hr3
          have hV4 : VFi w4 w4.heap.size (.agg #[.slice ca cl.length ccap, .slice ma ml.length mcap]) ⟨cl, ml⟩ := ⟨_, _, rfl, HC4.out.sl (eCl (fun k hk => hk.2)) (fun k hk => hk.2), HM4.out.sl (eMt (fun k hk => hk.2)) (fun k hk => hk.2)⟩
          have HV4 := Lib.hid hV4
          have hl0 := lt_cell' y0
          have hl1 := lt_cell' e0
          have hlb := lt_cell' kb
          have hl3 := lt_cell' hv3
          clear hk00 hr3 hV4
          refine wp_region_noPanic ?_
          refine wp_region_held_drew (S := fun w' => w'.cell? ⟨w.heap.size + 2, 0, none⟩ = some (.slice a3 r3.length cap3) ∧ w'.cell? ⟨g, o, none⟩ = some (.int .u8 k.toNat) ∧ w'.cell? ⟨w.heap.size, 0, none⟩ = some (.slice ca cl.length ccap) ∧ w'.cell? ⟨w.heap.size, 1, none⟩ = some (.slice ma ml.length mcap)) (by kernel_rfl) (by (try dsimp only); exact ⟨hv3, kb, y0, y1⟩) (fun hHeld => ?_)
          refine Drawn.tk 0 (some 24) rfl rfl (by assumption) ?_
          try simp only [Act.put, List.setIfInBounds_toArray, List.set_cons_zero, List.set_cons_succ]
          refine Drawn.tk 1 (some 25) rfl rfl (by assumption) ?_
          try simp only [Act.put, List.setIfInBounds_toArray, List.set_cons_zero, List.set_cons_succ]
          refine Drawn.tk 2 (some 26) rfl rfl (by assumption) ?_
          try simp only [Act.put, List.setIfInBounds_toArray, List.set_cons_zero, List.set_cons_succ]
          refine Drawn.tk 3 (some 27) rfl rfl (by assumption) ?_
          try simp only [Act.put, List.setIfInBounds_toArray, List.set_cons_zero, List.set_cons_succ]
          refine Drawn.tk 4 (some 28) rfl rfl (by assumption) ?_
          try simp only [Act.put, List.setIfInBounds_toArray, List.set_cons_zero, List.set_cons_succ]
          refine Drawn.tk 5 (some 29) rfl rfl (by assumption) ?_
          try simp only [Act.put, List.setIfInBounds_toArray, List.set_cons_zero, List.set_cons_succ]
          refine Drawn.tk 6 (some 30) rfl rfl (by assumption) ?_
          try simp only [Act.put, List.setIfInBounds_toArray, List.set_cons_zero, List.set_cons_succ]
          refine Drawn.tk 7 (some 31) rfl rfl (by assumption) ?_
          try simp only [Act.put, List.setIfInBounds_toArray, List.set_cons_zero, List.set_cons_succ]
          refine Drawn.tk 8 (some 32) rfl rfl (by assumption) ?_
          try simp only [Act.put, List.setIfInBounds_toArray, List.set_cons_zero, List.set_cons_succ]
          refine Drawn.tk 9 (some 33) rfl rfl (by assumption) ?_
          try simp only [Act.put, List.setIfInBounds_toArray, List.set_cons_zero, List.set_cons_succ]
          refine Drawn.tk 10 (some 34) rfl rfl (by assumption) ?_
          try simp only [Act.put, List.setIfInBounds_toArray, List.set_cons_zero, List.set_cons_succ]
          refine Drawn.tk 11 (some 35) rfl rfl (by assumption) ?_
          try simp only [Act.put, List.setIfInBounds_toArray, List.set_cons_zero, List.set_cons_succ]
          refine Drawn.tk 12 (some 36) rfl rfl (by assumption) ?_
          try simp only [Act.put, List.setIfInBounds_toArray, List.set_cons_zero, List.set_cons_succ]
          refine Drawn.tk 13 (some 37) rfl rfl (by assumption) ?_
          try simp only [Act.put, List.setIfInBounds_toArray, List.set_cons_zero, List.set_cons_succ]
          refine Drawn.tk 15 (some 39) rfl rfl (by assumption) ?_
          try simp only [Act.put, List.setIfInBounds_toArray, List.set_cons_zero, List.set_cons_succ]
          refine Drawn.tk 16 (some 40) rfl rfl (by assumption) ?_
          try simp only [Act.put, List.setIfInBounds_toArray, List.set_cons_zero, List.set_cons_succ]
          refine Drawn.tk 17 (some 41) rfl rfl (by assumption) ?_
          try simp only [Act.put, List.setIfInBounds_toArray, List.set_cons_zero, List.set_cons_succ]
          refine wpAnyH_ready (rs := [14]) (by kernel_rfl) (by simp) ?_
          refine AllReadyH.cons rfl (fun K hK => ?_) AllReadyH.nil
          go_simp
          go_at_call 57
          refine (wform ⟨cl, ml⟩ _ _ (by first | exact HV4.out | exact HV4.out.mono ((Below.refl _ _).drew) (Nat.le_refl _))).mono ?_
          rintro e w5 ⟨rfl, hb⟩
          replace hb : Below w4.heap.size w4 w5 := by first | exact hb | exact ((Below.refl _ _).drew).trans hb
          have x0 := kept hb hl0 y0
          have x1 := kept hb hl0 y1
          have x2 := kept hb hl1 e0
          have xk := kept hb hlb kb
          have x3 := kept hb hl3 hv3
          have z0 := (hb.frozen (p := ⟨w.heap.size, 0, none⟩) hl0).trans g0
          have z1 := (hb.frozen (p := ⟨w.heap.size, 1, none⟩) hl0).trans g1
          have z2 := (hb.frozen (p := ⟨w.heap.size + 1, 0, none⟩) hl1).trans e1
          have HB5 := Lib.hid (HB4.out.trans (hb.mono hs4))
          have HC5 := Lib.hid (HC4.out.stays sCl (w' := w5) (P' := Nw (w.heap.size + 2) w5.heap.size) (fun k hk => ⟨⟨hk.1, Nat.lt_of_lt_of_le hk.2 hb.size⟩, hb.block k hk.2⟩))
          have HM5 := Lib.hid (HM4.out.stays sMt (w' := w5) (P' := Nw (w.heap.size + 2) w5.heap.size) (fun k hk => ⟨⟨hk.1, Nat.lt_of_lt_of_le hk.2 hb.size⟩, hb.block k hk.2⟩))
          clear hb hv3 kb y0 y1 e0 g0 g1 e1
          go_wp2_with fail
          refine hK.out _ _ (by (try dsimp only); exact ⟨x3, xk, x0, x1⟩) (fun hHeld => ?_)
          clear hK K
          try simp only [Act.put, List.setIfInBounds_toArray, List.set_cons_zero, List.set_cons_succ]
          refine Drawn.tk 18 (some 42) rfl rfl (by assumption) ?_
          try simp only [Act.put, List.setIfInBounds_toArray, List.set_cons_zero, List.set_cons_succ]
          refine Drawn.tk 19 (some 43) rfl rfl (by assumption) ?_
          try simp only [Act.put, List.setIfInBounds_toArray, List.set_cons_zero, List.set_cons_succ]
          refine wpAnyH_done (by kernel_rfl) ?_ _
          refine NoPanic.normal ?_
          by_cases hff : Bytes.form ⟨cl, ml⟩ = k.toNat
          · have HN : Hid (getS (k :: rest) = some ⟨cl, ml⟩) := by
              show _ = _
              simp only [getS, HG.out, hr3e.out]
              rw [if_neg (by rintro (h | h); · exact HK00.out h
                             · exact h hff)]
            have hfb : (Bytes.form ⟨cl, ml⟩ == (k.toNat : Int)) = true := by rw [hff]; simp
            have hfc : (Bytes.form ⟨cl, ml⟩ != (k.toNat : Int)) = false := by rw [hff]; simp
            have HFF := Lib.hid hff
            clear hff
            go_wp2_with fail
            refine leaves_cons (f := 71) (args := #[.pointer (some ⟨w.heap.size, 0, none⟩), .pointer (some ⟨w.heap.size + 1, 0, none⟩)]) (by simp) (by simp [go_sem]) ?_
            refine (idle _ _ _).mono ?_
            rintro e u' w'' ⟨rfl, rfl, rfl⟩
            simp [Leaves, settle, results, Try.results37, go_sem, x0, x1, x2, hn0, hn1]
            have hfin : Below (w.heap.size) w5 _ := Below.setCell (Below.setCell (Below.setCell (Below.refl _ w5) (p := ⟨w.heap.size, 0, none⟩) (by simp) (.slice ca cl.length ccap)) (p := ⟨w.heap.size, 1, none⟩) (by simp) (.slice ma ml.length mcap)) (p := ⟨w.heap.size + 1, 0, none⟩) (by simp) (.int .i64 0)
            have hfw : Wk [w.heap.size, w.heap.size + 1] w5 _ := (((Wk.refl [w.heap.size, w.heap.size + 1] w5).setCell (p := ⟨w.heap.size, 0, none⟩) (.inl (by simp)) (.slice ca cl.length ccap)).setCell (p := ⟨w.heap.size, 1, none⟩) (.inl (by simp)) (.slice ma ml.length mcap)).setCell (p := ⟨w.heap.size + 1, 0, none⟩) (.inl (by simp)) (.int .i64 0)
            have hsz := hfw.size
            have hC6 := HC5.out.stays sCl (P' := Nw (w.heap.size + 2) _) (fun k hk => ⟨⟨hk.1, Nat.lt_of_lt_of_le hk.2 hsz⟩, hfw.block k hk.2 (by have := hk.1; simp; omega)⟩)
            have hM6 := HM5.out.stays sMt (P' := Nw (w.heap.size + 2) _) (fun k hk => ⟨⟨hk.1, Nat.lt_of_lt_of_le hk.2 hsz⟩, hfw.block k hk.2 (by have := hk.1; simp; omega)⟩)
            exact ⟨⟨_, by rw [HN.out] <;> rfl, by rw [HN.out]; exact ⟨_, _, rfl, hC6.sl (eCl (fun k hk => hk.2)) (fun k hk => hk.2), hM6.sl (eMt (fun k hk => hk.2)) (fun k hk => hk.2)⟩⟩, HB5.out.trans hfin⟩
          · have HN : Hid (getS (k :: rest) = none) := by
              show _ = _
              simp only [getS, HG.out, hr3e.out]
              rw [if_pos (.inr hff)]
            have hfb : (Bytes.form ⟨cl, ml⟩ == (k.toNat : Int)) = false := by rw [beq_eq_false_iff_ne]; exact hff
            have hfc : (Bytes.form ⟨cl, ml⟩ != (k.toNat : Int)) = true := by rw [bne_iff_ne]; exact hff
            have HFF := Lib.hid hff
            clear hff
            go_wp2_with fail
            refine leaves_cons (f := 71) (args := #[.pointer (some ⟨w.heap.size, 0, none⟩), .pointer (some ⟨w.heap.size + 1, 0, none⟩)]) (by simp) (by simp [go_sem]) ?_
            refine (idle _ _ _).mono ?_
            rintro e u' w'' ⟨rfl, rfl, rfl⟩
            simp [Leaves, settle, results, Try.results37, go_sem, x0, x1, x2, hn0, hn1]
            refine ⟨⟨_, by rw [HN.out] <;> rfl, by rw [HN.out]; exact nil_file _ _⟩, ?_⟩
            exact HB5.out.trans (Below.setCell (Below.setCell (Below.setCell (Below.refl _ _) (by simp) _) (by simp) _) (by simp) _)
      · have hg3 : decide ((0 : Int) < r3.length) = true := by simp; omega
        have hg4 : decide (0 < r3.length) = true := by simp; omega
        have HN : Hid (getS (k :: rest) = none) := by
          show _ = _
          simp only [getS, HG.out]
          match r3, hr3 with
          | [], h => exact absurd rfl h
          | _ :: _, _ => rfl
        clear hr3
        refine wp_region_noPanic ?_
        refine wp_region_held_drew (S := fun w' => w'.cell? ⟨w.heap.size + 2, 0, none⟩ = some (.slice a3 r3.length cap3) ∧ w'.cell? ⟨g, o, none⟩ = some (.int .u8 k.toNat) ∧ w'.cell? ⟨w.heap.size, 0, none⟩ = some (.slice ca cl.length ccap) ∧ w'.cell? ⟨w.heap.size, 1, none⟩ = some (.slice ma ml.length mcap)) (by kernel_rfl) (by (try dsimp only); exact ⟨hv3, kb, y0, y1⟩) (fun hHeld => ?_)
        refine Drawn.tk 0 (some 24) rfl rfl (by assumption) ?_
        try simp only [Act.put, List.setIfInBounds_toArray, List.set_cons_zero, List.set_cons_succ]
        refine Drawn.tk 1 (some 25) rfl rfl (by assumption) ?_
        try simp only [Act.put, List.setIfInBounds_toArray, List.set_cons_zero, List.set_cons_succ]
        refine Drawn.tk 2 (some 26) rfl rfl (by assumption) ?_
        try simp only [Act.put, List.setIfInBounds_toArray, List.set_cons_zero, List.set_cons_succ]
        refine Drawn.tk 3 (some 27) rfl rfl (by assumption) ?_
        try simp only [Act.put, List.setIfInBounds_toArray, List.set_cons_zero, List.set_cons_succ]
        refine Drawn.tk 4 (some 28) rfl rfl (by assumption) ?_
        try simp only [Act.put, List.setIfInBounds_toArray, List.set_cons_zero, List.set_cons_succ]
        refine Drawn.tk 5 (some 29) rfl rfl (by assumption) ?_
        try simp only [Act.put, List.setIfInBounds_toArray, List.set_cons_zero, List.set_cons_succ]
        refine Drawn.tk 6 (some 30) rfl rfl (by assumption) ?_
        try simp only [Act.put, List.setIfInBounds_toArray, List.set_cons_zero, List.set_cons_succ]
        refine Drawn.ps 7 (some 31) rfl rfl (by assumption) ?_
        try simp only [Act.put, List.setIfInBounds_toArray, List.set_cons_zero, List.set_cons_succ]
        refine Drawn.ps 8 (some 32) rfl rfl (by assumption) ?_
        try simp only [Act.put, List.setIfInBounds_toArray, List.set_cons_zero, List.set_cons_succ]
        refine Drawn.ps 9 (some 33) rfl rfl (by assumption) ?_
        try simp only [Act.put, List.setIfInBounds_toArray, List.set_cons_zero, List.set_cons_succ]
        refine Drawn.ps 10 (some 34) rfl rfl (by assumption) ?_
        try simp only [Act.put, List.setIfInBounds_toArray, List.set_cons_zero, List.set_cons_succ]
        refine Drawn.tk 11 (some 35) rfl rfl (by assumption) ?_
        try simp only [Act.put, List.setIfInBounds_toArray, List.set_cons_zero, List.set_cons_succ]
        refine Drawn.tk 12 (some 36) rfl rfl (by assumption) ?_
        try simp only [Act.put, List.setIfInBounds_toArray, List.set_cons_zero, List.set_cons_succ]
        refine Drawn.ps 13 (some 37) rfl rfl (by assumption) ?_
        try simp only [Act.put, List.setIfInBounds_toArray, List.set_cons_zero, List.set_cons_succ]
        refine Drawn.ps 14 (some 38) rfl rfl (by assumption) ?_
        try simp only [Act.put, List.setIfInBounds_toArray, List.set_cons_zero, List.set_cons_succ]
        refine Drawn.ps 15 (some 39) rfl rfl (by assumption) ?_
        try simp only [Act.put, List.setIfInBounds_toArray, List.set_cons_zero, List.set_cons_succ]
        refine Drawn.ps 16 (some 40) rfl rfl (by assumption) ?_
        try simp only [Act.put, List.setIfInBounds_toArray, List.set_cons_zero, List.set_cons_succ]
        refine Drawn.ps 17 (some 41) rfl rfl (by assumption) ?_
        try simp only [Act.put, List.setIfInBounds_toArray, List.set_cons_zero, List.set_cons_succ]
        refine Drawn.ps 18 (some 42) rfl rfl (by assumption) ?_
        try simp only [Act.put, List.setIfInBounds_toArray, List.set_cons_zero, List.set_cons_succ]
        refine Drawn.tk 19 (some 43) rfl rfl (by assumption) ?_
        try simp only [Act.put, List.setIfInBounds_toArray, List.set_cons_zero, List.set_cons_succ]
        refine wpAnyH_done (by kernel_rfl) ?_ _
        refine NoPanic.normal ?_
        go_wp2_with fail
        refine leaves_cons (f := 71) (args := #[.pointer (some ⟨w.heap.size, 0, none⟩), .pointer (some ⟨w.heap.size + 1, 0, none⟩)]) (by simp) (by simp [go_sem]) ?_
        refine (idle _ _ _).mono ?_
        rintro e u' w'' ⟨rfl, rfl, rfl⟩
        simp [Leaves, settle, results, Try.results37, go_sem, y0, y1, e0, hn0, hn1]
        refine ⟨⟨_, by rw [HN.out] <;> rfl, by rw [HN.out]; exact nil_file _ _⟩, ?_⟩
        exact HB4.out.trans (Below.setCell (Below.setCell (Below.setCell (Below.drew (Below.refl _ _)) (by simp) _) (by simp) _) (by simp) _)
end Wire
end Go.Proofs.Ytncmhenfgbcihaa

/- The walk through the reference's Get. -/
namespace Go.Proofs.Ytncmhenfgbcihaa
open Go.RowKit
set_option linter.unusedSimpArgs false
set_option linter.unusedVariables false
namespace Wire
open Num Rd D Bytes HierW FormW FormR

theorem St.nextF {w w' : World} {B b : Nat} {all : List UInt8} {s : S} (h : St w B b all s) {X : List Nat} (hk : Wk X w w') (hX : ∀ x ∈ X, B ≤ x ∧ b ≠ x) : St w' B b all s := by
  have h1 := h.lt
  obtain ⟨hB, v, k, c0, hs, c1, c2, hk', hr, f1, f2⟩ := h
  have hb : b ∉ X := fun h => (hX b h).2 rfl
  exact ⟨hB, v, k, hk.cell c0 hb, hs.mono mByte (hk.below (by omega) (fun x hx => (hX x hx).1)) (Nat.le_refl _), hk.cell c1 hb, hk.cell c2 hb, hk', hr, hk.frz f1 h1 hb, hk.frz f2 h1 hb⟩

theorem getS_none {k : UInt8} {rest : List UInt8} {f : Fi} (h : fiT (some rest) = (f, none)) : getS (k :: rest) = none := by
  have h1 := tot_fi.1 rest
  cases hp : fiP rest with
  | none => simp only [getS, hp]
  | some p =>
    obtain ⟨x, r⟩ := p
    have := h1 x r hp
    rw [h] at this
    injection this with _ h2
    cases h2
theorem getS_some {rest r : List UInt8} {f : Fi} (h : fiT (some rest) = (f, some r)) : fiP rest = some (f, r) := by
  cases hp : fiP rest with
  | none =>
    have := tot_fi.2.1 rest hp
    rw [h] at this
    cases this
  | some p =>
    obtain ⟨x, r'⟩ := p
    have := tot_fi.1 rest x r' hp
    rw [h] at this
    injection this with h1 h2
    injection h2 with h2
    rw [h1, h2]

set_option maxRecDepth 100000 in
set_option maxHeartbeats 16000000 in
theorem getR (bs : List UInt8) (vb : Value) (w : World) (h : Sl 1 EByte w w.heap.size vb bs) (hlen : bs.length ≤ 4000000) :
    Calls Try.prog 38 #[vb] w fun e w' => Got w.heap.size (getS bs) e w' ∧ Below w.heap.size w w' := by
  obtain ⟨mi, hmi, hm0, hm1, hm2⟩ := info_parts info_Mt
  obtain ⟨ci, hci, hc0, hc1, hc2⟩ := info_parts info_Cl
  have hS := Lib.hid h
  obtain ⟨a, cap, rfl, hlc, hcc, hel⟩ := h
  rcases bs with _ | ⟨k, rest⟩
  · have HZ : Hid (getS [] = none) := rfl
    clear hel
    go_enter Try.func38, Try.ntmps38
    go_wp2
    refine bodyPost_ret (v := .tuple #[.agg #[.slice none 0 0, .slice none 0 0], .int .i64 2]) (by simp [results, Try.results38, go_sem] <;> go_simp) rfl ?_
    exact ⟨⟨_, rfl, nil_file _ _⟩, (by repeat' (first | with_reducible exact Below.refl _ _ | with_reducible assumption | exact Nat.le_refl _ | with_reducible refine Go.Proofs.Ytncmhenfgbcihaa.Rd.below_drewN ?_ _ | with_reducible refine Below.alloc ?_ ?_ _ | with_reducible refine Below.setCell ?_ ?_ _ | with_reducible refine Below.drew ?_ | omega | (simp; omega) | (simp; done)))⟩
  · obtain ⟨g, o, rfl, hg, he0⟩ := hel 0 (by simp)
    have hk0 : w.cell? ⟨g, o, none⟩ = some (.int .u8 k.toNat) := by
      have : w.cell? ⟨g, o + 0 * 1, none⟩ = some (.int .u8 k.toNat) := he0
      simpa using this
    simp only [List.length_cons] at hlc
    have hlb : ((rest.length + 1 : Nat) : Int) ≠ 0 := by omega
    have hlg := lt_cell' hk0
    clear hel he0
    obtain ⟨⟨n, t1⟩, RN⟩ : ∃ y, Hid (manyT (some rest) = y) := ⟨_, rfl⟩
    obtain ⟨⟨cl, t2⟩, RC⟩ : ∃ y, Hid (listT clT n.toNat t1 = y) := ⟨_, rfl⟩
    obtain ⟨⟨n2, t3⟩, RN2⟩ : ∃ y, Hid (manyT t2 = y) := ⟨_, rfl⟩
    obtain ⟨⟨ml, t4⟩, RM⟩ : ∃ y, Hid (listT meT n2.toNat t3 = y) := ⟨_, rfl⟩
    have HT : Hid (fiT (some rest) = (⟨cl, ml⟩, t4)) := by
      have hC : lstT clT (some rest) = (cl, t2) := by unfold lstT; rw [RN.out]; exact RC.out
      have hH : lstT meT t2 = (ml, t4) := by unfold lstT; rw [RN2.out]; exact RM.out
      show _ = _
      unfold fiT
      simp only [hC, hH]
    have okn : Ok n := by have := manyT_ok (some rest); rw [RN.out] at this; exact this
    have okn2 : Ok n2 := by have := manyT_ok t2; rw [RN2.out] at this; exact this
    unfold Ok at okn okn2
    go_enter Try.func38, Try.ntmps38
    go_wp2_with fail
    refine callsR (fun W => Hid (Wk [] w W) ∧ Hid (St W w.heap.size (w.heap.size + 2) (k :: rest) (some rest)) ∧ Hid (Blk W w.heap.size [.slice none 0 0, .slice none 0 0]) ∧ Hid (Blk W (w.heap.size + 1) [.slice none 0 0, .slice none 0 0]) ∧ W.heap.size = w.heap.size + 3) ⟨Lib.hid ((((Wk.refl _ _).alloc _).alloc _).alloc _), ?_, ?_, ?_, by simp⟩ ?_
    · exact Lib.hid ⟨by omega, _, 1, by go_simp; try rfl, hS.out.mono mByte (((Below.refl _ _).alloc (by simp) _).alloc (by simp <;> omega) _ |>.alloc (by simp <;> omega) _) (Nat.le_refl _), by go_simp; try rfl, by go_simp; try rfl, by simp, fun rs h => by injection h with h; rw [← h]; rfl, by go_simp, by go_simp⟩
    · show Blk _ _ _
      intro j hj
      match j, hj with
      | 0, _ => exact ⟨by go_simp; try rfl, by go_simp⟩
      | 1, _ => exact ⟨by go_simp; try rfl, by go_simp⟩
    · show Blk _ _ _
      intro j hj
      match j, hj with
      | 0, _ => exact ⟨by go_simp; try rfl, by go_simp⟩
      | 1, _ => exact ⟨by go_simp; try rfl, by go_simp⟩
    rintro w0 ⟨HK0, HS0, HZ0, HF0, hw0⟩
    refine (manyTw w.heap.size (w.heap.size + 2) (k :: rest) (some rest) _ HS0.out hlen).mono ?_
    rw [RN.out]
    rintro e w2 ⟨hk, v2, rfl, hv2, hS2⟩
    unfold RInt at hv2
    subst hv2
    have HK2 : Hid (Wk [(w.heap.size + 2), (w.heap.size + 1)] w0 w2) := hk.mono (by simp)
    have HF2 := Lib.hid (HF0.out.next hk (by simp <;> omega))
    have HS2 := Lib.hid hS2
    have hl2 := Lib.hid (lens_st hS2 hlen)
    have h2s := hk.size
    have HC0 : Hid ((cl, t2) = ([] ++ (listT clT (n.toNat - 0) t1).1, (listT clT (n.toNat - 0) t1).2)) := by
      show _ = _
      rw [Nat.sub_zero, RC.out]; rfl
    clear hk hS2
    go_wp2_with fail
    go_loopw [7] (fun i wr => ∃ (k1 : Nat) (acc : List Cls) (xs : List Value) (s' : S) (v0 : Value), ((k1 : Int) ≤ n ∨ k1 = 0) ∧ k1 ≤ 500001 ∧ i = .int .i64 k1 ∧ Hid (acc.length = k1) ∧ Hid (Wk [(w.heap.size + 2), (w.heap.size + 1)] w0 wr) ∧ Hid (St wr w.heap.size (w.heap.size + 2) (k :: rest) s') ∧ Hid (Blk wr (w.heap.size + 1) [v0, .slice none 0 0]) ∧ Hid (wr.ownsRow w0.heap.size 40 2 v0 acc.length xs) ∧ Hid (Row VCl 2 wr (Rw w0.heap.size wr v0) xs acc) ∧ Hid (∀ rs, s' = some rs → rs.length + 8 * k1 ≤ 4000000) ∧ Hid ((cl, t2) = (acc ++ (listT clT (n.toNat - k1) s').1, (listT clT (n.toNat - k1) s').2))) (fun i _ => n.toNat - (intOf i).toNat)
    case atStart => exact ⟨0, [], [], t1, _, by omega, by omega, rfl, rfl, HK2, HS2, HF2, World.ownsRow_nil _ _ _ _, Row.nil _ _ _ _, Lib.hid (fun rs h => by have := hl2.out rs h; omega), HC0⟩
    case round =>
    obtain ⟨k1, acc, xs, s', v0, hkn, hk5, rfl, hacc, HKr, HSr, HFr, HOr, HWr, hbd, HLr⟩ := hrel
    have hsz := HKr.out.size
    have hbl := HSr.out.lt
    have hfl := flag HSr.out
    have hMlt : w.heap.size + 1 < wr.heap.size := by omega
    have hal : acc.length ≤ 500001 := by have := hacc.out; omega
    have stop : (n.toNat - k1 = 0 ∨ s' = none) → Hid ((cl, t2) = (acc, s')) := fun h => listT_stop HLr.out h
    by_cases hgo : (k1 : Int) < n ∧ s' ≠ none
    · obtain ⟨hlt2, hne⟩ := hgo
      obtain ⟨rs, rfl⟩ : ∃ rs, s' = some rs := by
        cases s' with
        | none => exact absurd rfl hne
        | some rs => exact ⟨rs, rfl⟩
      simp only [Option.isNone_some] at hfl
      have hnk : n.toNat - k1 = (n.toNat - (k1 + 1)) + 1 := by omega
      obtain ⟨⟨y0, u1⟩, E0⟩ : ∃ y, Hid (rdT (some rs) = y) := ⟨_, rfl⟩
      obtain ⟨⟨fl, u2⟩, E1⟩ : ∃ y, Hid (lstT tyT u1 = y) := ⟨_, rfl⟩
      have HI : Hid (clT (some rs) = (⟨y0, fl⟩, u2)) := by
        show _ = _
        unfold clT
        simp only [E0.out, E1.out]
      have OK1 : Hid (Ok y0) := by have a0 := rdT_ok (some rs); rw [E0.out] at a0; exact a0
      have HL2 : Hid ((cl, t2) = ((acc ++ [(⟨y0, fl⟩ : Cls)]) ++ (listT clT (n.toNat - (k1 + 1)) u2).1, (listT clT (n.toNat - (k1 + 1)) u2).2)) := by
        have h0 := HLr.out
        rw [hnk] at h0
        have := listT_step (t := clT) (m := n.toNat - (k1 + 1)) h0
        rw [HI.out] at this; exact this
      have HB2 : Hid (∀ r, u2 = some r → r.length + 8 * (k1 + 1) ≤ 4000000) := fun r h => by
        have := hbd.out rs rfl
        have := eatsT_of tot_cl cl_wrote (fun x => by simp only [clB, List.length_append, wide_len] <;> omega) rs r (by rw [HI.out]; exact h); omega
      clear stop hnk hne
      go_wp2_with fail
      refine callsR (fun W => Hid (Wk [(w.heap.size + 2)] wr W) ∧ Hid (St W w.heap.size (w.heap.size + 2) (k :: rest) (some rs)) ∧ Hid (Blk W wr.heap.size [.int .i64 0, .slice none 0 0])) ⟨Lib.hid ((Wk.refl _ _).alloc _), Lib.hid (HSr.out.alloc _), ?_⟩ ?_
      · show Blk _ _ _
        intro j hj
        match j, hj with
        | 0, _ => exact ⟨by go_simp; try rfl, by go_simp⟩
        | 1, _ => exact ⟨by go_simp; try rfl, by go_simp⟩
      rintro d0 ⟨HKd0, HSd0, HBd0⟩
      refine (numberT w.heap.size (w.heap.size + 2) (k :: rest) (some rs) _ HSd0.out hlen).mono ?_
      rw [E0.out]
      rintro e p1 ⟨hk, v2, rfl, hv2, hS2⟩
      unfold RInt at hv2
      subst hv2
      have HKp1 := Lib.hid (HKd0.out.trans hk)
      have HBp1 := Lib.hid (HBd0.out.next hk (by simp <;> omega))
      have HSp1 := Lib.hid hS2
      have m0 : p1.cell? ⟨wr.heap.size, 0, none⟩ = some (.int .i64 0) := (HBp1.out 0 (by simp)).1
      have m1 : p1.frozen? ⟨wr.heap.size, 0, none⟩ = false := (HBp1.out 0 (by simp)).2
      clear hk hS2
      go_wp2_with fail
      refine callsR (fun W => Hid (Wk [(w.heap.size + 2)] wr W) ∧ Hid (St W w.heap.size (w.heap.size + 2) (k :: rest) u1) ∧ Hid (Blk W wr.heap.size [.int .i64 y0, .slice none 0 0])) ⟨Lib.hid (HKp1.out.setCell (.inr (Nat.le_refl _)) _), Lib.hid (HSp1.out.next (X := [wr.heap.size]) ((Wk.refl _ _).setCell (.inl (by simp)) _) (by simp <;> omega)), Lib.hid (HBp1.out.set 0 (by simp) _)⟩ ?_
      rintro q2 ⟨HKq2, HSq2, HBq2⟩
      clear m0 m1
      have hqs := lt_cell' (HBq2.out 0 (by simp)).1
      refine (typesT w.heap.size (w.heap.size + 2) (k :: rest) u1 _ HSq2.out hlen).mono ?_
      rw [E1.out]
      rintro e w5 ⟨hk, v, rfl, hsl, hS5⟩
      have HP5 := Lib.hid hsl
      obtain ⟨pa, pcap, rfl, _, _, _⟩ := hsl
      have h5s := hk.size
      have HK5 := Lib.hid (HKq2.out.trans hk)
      have HB5 := Lib.hid (HBq2.out.next hk (by simp <;> omega))
      have m0 : w5.cell? ⟨wr.heap.size, 1, none⟩ = some (.slice none 0 0) := (HB5.out 1 (by simp)).1
      have m1 : w5.frozen? ⟨wr.heap.size, 1, none⟩ = false := (HB5.out 1 (by simp)).2
      have HS5 := Lib.hid hS5
      clear hk hS5
      have HKj : Hid (Wk [(w.heap.size + 2)] wr (w5.setCell ⟨wr.heap.size, 1, none⟩ (.slice pa fl.length pcap))) := HK5.out.setCell (.inr (Nat.le_refl _)) _
      have HSj : Hid (St (w5.setCell ⟨wr.heap.size, 1, none⟩ (.slice pa fl.length pcap)) w.heap.size (w.heap.size + 2) (k :: rest) u2) := HS5.out.next (X := [wr.heap.size]) ((Wk.refl _ _).setCell (.inl (by simp)) _) (by simp <;> omega)
      have HFj := Lib.hid (HFr.out.next HKj.out (by simp <;> omega))
      have HOj := Lib.hid (own_keep HOr.out HKj.out (by exact fun g hg e => by have := (HOr.out.lt g hg).1; omega))
      have hjz : (w5.setCell ⟨wr.heap.size, 1, none⟩ (.slice pa fl.length pcap)).heap.size = w5.heap.size := by simp [World.setCell]
      have HVj : Hid (VCl (w5.setCell ⟨wr.heap.size, 1, none⟩ (.slice pa fl.length pcap)) (Nw wr.heap.size (w5.setCell ⟨wr.heap.size, 1, none⟩ (.slice pa fl.length pcap)).heap.size) [.int .i64 y0, .slice pa fl.length pcap] ⟨y0, fl⟩) := ⟨_, rfl, OK1.out, HP5.out.stays sTy (fun k hk => ⟨⟨by have := hk.1; omega, by have := hk.2; omega⟩, Below.heap_setCell _ _ _ _ (by show k ≠ wr.heap.size; have := hk.1; omega)⟩)⟩
      have hjs := HKj.out.size
      have hpb : w5.cell? ⟨w.heap.size + 1, 0, none⟩ = some v0 := ((HFr.out.next HK5.out (by simp <;> omega)) 0 (by simp)).1
      have b0 : w5.cell? ⟨wr.heap.size, 0, none⟩ = some (.int .i64 y0) := (HB5.out 0 (by simp)).1
      go_wp2_with (at_builtin; refine wpList_append_lies _ rfl (.tmp 42) (.tmp 44) 26 rfl w0.heap.size 40 ci (.agg #[.int .i64 0, .slice none 0 0]) 2 32 Try.underlying26 hci hc0 hc1 hc2 rfl (by decide) _ _ _ (by simp [Act.eval, Act.put]) (HOj.out.alloc _) ⟨w5.heap.size, 0, none⟩ 1 1 [.int .i64 y0, .slice pa fl.length pcap] (by simp [Act.eval, Act.put]) rfl (by exact news_set _ _ _ _ (by simp [World.setCell])) (by simp [Value.oneCell']) (by decide) (by unfold maxLen; omega) (by omega) (by simp [World.setCell]; omega) _ rfl ?_; intro g2 cap2 w9 hown3 hgrow3 hat3 hlt3; have HA := Lib.hid (item_addedG HSj.out HOj.out HWr.out HKj.out (by omega) hsz (fun g hg => (HOr.out.lt g hg).2) HVj.out sCl rfl hown3 hgrow3 hat3); have hc9 := after_cell HA.out.1 ((HFj.out 0 (by simp)).1) (by omega); have hf9 := after_frz HA.out.1 (⟨(HFj.out 0 (by simp)).2, by omega⟩) (by omega); clear hown3 hgrow3 hat3)
      obtain ⟨⟨X, hX, hXy⟩, a2, a3, a4⟩ := HA.out
      have HF9 := Lib.hid (HFj.out.next hX (by intro h; have := (hXy _ h).1; omega))
      have HX := Lib.hid hX; have HXY := Lib.hid hXy
      have A2 := Lib.hid a2; have A3 := Lib.hid a3; have A4 := Lib.hid a4
      have h9s := hX.size
      clear a2 a3 a4 HA hX hXy b0 m0 m1 hpb
      go_wp2_with fail
      go_roundw
      case rel =>
        have hset : Wk [(w.heap.size + 1)] w9 (w9.setCell ⟨w.heap.size + 1, 0, none⟩ (.slice (some ⟨g2, 0, none⟩) (acc.length + 1) cap2)) := (Wk.refl _ _).setCell (.inl (by simp)) _
        exact ⟨k1 + 1, acc ++ [_], _, _, _, by omega, by have := hbd.out rs rfl; omega, by go_num, Lib.hid (by have := hacc.out; simp; omega), Lib.hid (((HKr.out.trans (HKj.out.mono (by simp))).trans' HX.out (fun y hy => .inr (by have := (HXY.out y hy).1; omega))).setCell (.inl (by simp)) _), Lib.hid (A2.out.nextF hset (by simp <;> omega)), Lib.hid (HF9.out.set 0 (by simp) _), Lib.hid (own_keep A3.out hset (by exact fun g hg e => by have := (A3.out.lt g hg).1; omega)), Lib.hid (A4.out.stays sCl (fun k hk => ⟨⟨hk.1, Nat.lt_of_lt_of_le hk.2.1 hset.size, hk.2.2⟩, hset.block k hk.2.1 (by have := hk.1; simp; omega)⟩)), HB2, HL2⟩
      case measure => simp [intOf]; omega
    · have HT5 := stop (by
        by_cases hh : (k1 : Int) < n
        · right; exact Classical.byContradiction fun h => hgo ⟨hh, h⟩
        · left; omega)
      obtain ⟨e1, e2⟩ := Prod.mk.inj HT5.out
      subst e1
      subst e2
      have HC6 : Hid (SlV VCl 2 wr (Nw w0.heap.size wr.heap.size) v0 cl) := Row.sl sCl HWr.out HOr.out (by omega) (P' := Nw w0.heap.size wr.heap.size) (fun k hk => ⟨hk.1, hk.2.1⟩) (fun g hg => HOr.out.lt g hg)
      have hgd : ((k1 : Int) < n ∧ t2 = none) ∨ ¬ ((k1 : Int) < n) := by
        by_cases hh : (k1 : Int) < n
        · left; exact ⟨hh, Classical.byContradiction fun h => hgo ⟨hh, h⟩⟩
        · right; exact hh
      clear stop HLr hbd HOr HWr hgo HT5
      obtain ⟨ca, ccap, rfl, _, _, _⟩ := HC6.out
      obtain ⟨wo, rfl⟩ : ∃ wo : World, wo = wr := ⟨_, rfl⟩
      rcases hgd with ⟨hg1, rfl⟩ | hg1
      all_goals
        try simp only [Option.isNone_none] at hfl
        go_wp2_with fail
        refine (manyTw w.heap.size (w.heap.size + 2) (k :: rest) _ _ HSr.out hlen).mono ?_
        rw [RN2.out]
        rintro e w4 ⟨hk, v2, rfl, hv2, hS2⟩
        unfold RInt at hv2
        subst hv2
        have HK4 : Hid (Wk [(w.heap.size + 2), (w.heap.size + 1)] wo w4) := hk.mono (by simp)
        have HF4 := Lib.hid (HFr.out.next hk (by simp <;> omega))
        have HC4 := Lib.hid (HC6.out.stays sCl (fun k hk' => ⟨hk', hk.block k hk'.2 (by simp; have := hk'.1; omega)⟩))
        have HS4 := Lib.hid hS2
        have hl4 := Lib.hid (lens_st hS2 hlen)
        have h4s := hk.size
        have HM0 : Hid ((ml, t4) = ([] ++ (listT meT (n2.toNat - 0) t3).1, (listT meT (n2.toNat - 0) t3).2)) := by
          show _ = _
          rw [Nat.sub_zero, RM.out]; rfl
        clear hk hS2
        go_wp2_with fail
        go_loopw [10] (fun i wr => ∃ (kk : Nat) (acc : List Me) (xs : List Value) (s' : S) (v7 : Value), ((kk : Int) ≤ n2 ∨ kk = 0) ∧ kk ≤ 500001 ∧ i = .int .i64 kk ∧ Hid (acc.length = kk) ∧ Hid (Wk [(w.heap.size + 2), (w.heap.size + 1)] w4 wr) ∧ Hid (St wr w.heap.size (w.heap.size + 2) (k :: rest) s') ∧ Hid (Blk wr (w.heap.size + 1) [.slice ca cl.length ccap, v7]) ∧ Hid (wr.ownsRow w4.heap.size 49 8 v7 acc.length xs) ∧ Hid (Row VMt 8 wr (Rw w4.heap.size wr v7) xs acc) ∧ Hid (∀ rs, s' = some rs → rs.length + 8 * kk ≤ 4000000) ∧ Hid ((ml, t4) = (acc ++ (listT meT (n2.toNat - kk) s').1, (listT meT (n2.toNat - kk) s').2))) (fun i _ => n2.toNat - (intOf i).toNat)
        case atStart => exact ⟨0, [], [], t3, _, by omega, by omega, rfl, rfl, Lib.hid (Wk.refl _ _), HS4, HF4, World.ownsRow_nil _ _ _ _, Row.nil _ _ _ _, Lib.hid (fun rs h => by have := hl4.out rs h; omega), HM0⟩
        case round =>
        obtain ⟨k3, acc3, xs3, s3, v7, hk3n, hk35, rfl, hacc3, HKh, HSh, HFh, HOh, HWh, hbd3, HLh⟩ := hrel
        have hsh := HKh.out.size
        have hblh := HSh.out.lt
        have hflh := flag HSh.out
        have hMlt2 : w.heap.size + 1 < wr.heap.size := by omega
        have hal3 : acc3.length ≤ 500001 := by have := hacc3.out; omega
        have stop3 : (n2.toNat - k3 = 0 ∨ s3 = none) → Hid ((ml, t4) = (acc3, s3)) := fun h => listT_stop HLh.out h
        by_cases hgo3 : (k3 : Int) < n2 ∧ s3 ≠ none
        · obtain ⟨hlt3, hne3⟩ := hgo3
          obtain ⟨rs3, rfl⟩ : ∃ rs3, s3 = some rs3 := by
            cases s3 with
            | none => exact absurd rfl hne3
            | some rs3 => exact ⟨rs3, rfl⟩
          simp only [Option.isNone_some] at hflh
          have hnk : n2.toNat - k3 = (n2.toNat - (k3 + 1)) + 1 := by omega
          obtain ⟨⟨me, u1⟩, HI⟩ : ∃ y, Hid (meT (some rs3) = y) := ⟨_, rfl⟩
          have HL5 : Hid ((ml, t4) = ((acc3 ++ [me]) ++ (listT meT (n2.toNat - (k3 + 1)) u1).1, (listT meT (n2.toNat - (k3 + 1)) u1).2)) := by
            have h0 := HLh.out
            rw [hnk] at h0
            have := listT_step (t := meT) (m := n2.toNat - (k3 + 1)) h0
            rw [HI.out] at this; exact this
          have HB5 : Hid (∀ r, u1 = some r → r.length + 8 * (k3 + 1) ≤ 4000000) := fun r h => by
            have := hbd3.out rs3 rfl
            have := eatsT_of tot_me me_wrote (fun x => by simp only [meB, tyB, List.length_append, wide_len] <;> omega) rs3 r (by rw [HI.out]; exact h); omega
          clear stop3 hnk hne3
          go_wp2_with fail
          refine (methodT w.heap.size (w.heap.size + 2) (k :: rest) (some rs3) _ HSh.out hlen).mono ?_
          rw [HI.out]
          rintro e w5 ⟨hk, v, rfl, hrs, hS5⟩
          have hrs0 := Lib.hid hrs
          obtain ⟨cs, rfl, hvm⟩ := hrs
          have HVm := Lib.hid hvm
          obtain ⟨vp, vc, vh, rfl, _, ⟨pa, pcap, rfl, _, _, _⟩, ⟨da, dcap, rfl, _, _, _⟩, ⟨ha, hcap, rfl, _, _, _⟩⟩ := hvm
          have HKm := Lib.hid hk
          have HSm := Lib.hid hS5
          have h5s := hk.size
          clear hk hS5
          have hWs : (w5.alloc (.cells #[.slice pa me.params.length pcap, .int .i64 me.ret.kind, .int .i64 me.ret.cls, .int .i64 me.stack, .int .i64 me.locals, .int .i64 me.regs, .slice da me.code.length dcap, .slice ha me.handlers.length hcap] 49)).heap.size = w5.heap.size + 1 := by simp
          have HKj : Hid (Wk [(w.heap.size + 2)] wr (w5.alloc (.cells #[.slice pa me.params.length pcap, .int .i64 me.ret.kind, .int .i64 me.ret.cls, .int .i64 me.stack, .int .i64 me.locals, .int .i64 me.regs, .slice da me.code.length dcap, .slice ha me.handlers.length hcap] 49))) := HKm.out.alloc _
          have HSj : Hid (St (w5.alloc (.cells #[.slice pa me.params.length pcap, .int .i64 me.ret.kind, .int .i64 me.ret.cls, .int .i64 me.stack, .int .i64 me.locals, .int .i64 me.regs, .slice da me.code.length dcap, .slice ha me.handlers.length hcap] 49)) w.heap.size (w.heap.size + 2) (k :: rest) u1) := HSm.out.alloc _
          have HFj := Lib.hid (HFh.out.next HKj.out (by simp <;> omega))
          have HOj := Lib.hid (own_keep HOh.out HKj.out (by exact fun g hg e => by have := (HOh.out.lt g hg).1; omega))
          have HVj : Hid (VMt (w5.alloc (.cells #[.slice pa me.params.length pcap, .int .i64 me.ret.kind, .int .i64 me.ret.cls, .int .i64 me.stack, .int .i64 me.locals, .int .i64 me.regs, .slice da me.code.length dcap, .slice ha me.handlers.length hcap] 49)) (Nw wr.heap.size (w5.alloc (.cells #[.slice pa me.params.length pcap, .int .i64 me.ret.kind, .int .i64 me.ret.cls, .int .i64 me.stack, .int .i64 me.locals, .int .i64 me.regs, .slice da me.code.length dcap, .slice ha me.handlers.length hcap] 49)).heap.size) [.slice pa me.params.length pcap, .int .i64 me.ret.kind, .int .i64 me.ret.cls, .int .i64 me.stack, .int .i64 me.locals, .int .i64 me.regs, .slice da me.code.length dcap, .slice ha me.handlers.length hcap] me) := sMt _ _ _ _ _ _ (fun k hk => ⟨⟨hk.1, by have := hk.2; omega⟩, heap_alloc_old w5 _ hk.2⟩) HVm.out
          have hFl : w.heap.size + 1 < w5.heap.size := by omega
          have hpb : w5.cell? ⟨w.heap.size + 1, 1, none⟩ = some v7 := ((HFh.out.next HKm.out (by simp <;> omega)) 1 (by simp)).1
          go_wp2_with (at_builtin; refine wpList_append_lies _ rfl (.tmp 64) (.tmp 66) 34 rfl w4.heap.size 49 mi (.agg #[.slice none 0 0, .int .i64 0, .int .i64 0, .int .i64 0, .int .i64 0, .int .i64 0, .slice none 0 0, .slice none 0 0]) 8 112 Try.underlying34 hmi hm0 hm1 hm2 rfl (by decide) _ _ _ (by simp [Act.eval, Act.put]) (HOj.out.alloc _) ⟨w5.heap.size + 1, 0, none⟩ 1 1 [.slice pa me.params.length pcap, .int .i64 me.ret.kind, .int .i64 me.ret.cls, .int .i64 me.stack, .int .i64 me.locals, .int .i64 me.regs, .slice da me.code.length dcap, .slice ha me.handlers.length hcap] (by simp [Act.eval, Act.put]) rfl (by exact news_set _ _ _ _ (by simp [World.setCell])) (by simp [Value.oneCell']) (by decide) (by unfold maxLen; omega) (by omega) (by simp [World.setCell]; omega) _ rfl ?_; intro g2 cap2 w9 hown3 hgrow3 hat3 hlt3; have HA := Lib.hid (item_addedG HSj.out HOj.out HWh.out HKj.out (by omega) hsh (fun g hg => (HOh.out.lt g hg).2) HVj.out sMt rfl hown3 hgrow3 hat3); have hc9 := after_cell HA.out.1 ((HFj.out 1 (by simp)).1) (by omega); have hf9 := after_frz HA.out.1 (⟨(HFj.out 1 (by simp)).2, by omega⟩) (by omega); clear hown3 hgrow3 hat3)
          obtain ⟨⟨X, hX, hXy⟩, a2, a3, a4⟩ := HA.out
          have HF9 := Lib.hid (HFj.out.next hX (by intro h; have := (hXy _ h).1; omega))
          have HX := Lib.hid hX; have HXY := Lib.hid hXy
          have A2 := Lib.hid a2; have A3 := Lib.hid a3; have A4 := Lib.hid a4
          have h9s := hX.size
          clear a2 a3 a4 HA hX hXy hpb
          go_wp2_with fail
          go_roundw
          case rel =>
            have hset : Wk [(w.heap.size + 1)] w9 (w9.setCell ⟨w.heap.size + 1, 1, none⟩ (.slice (some ⟨g2, 0, none⟩) (acc3.length + 1) cap2)) := (Wk.refl _ _).setCell (.inl (by simp)) _
            exact ⟨k3 + 1, acc3 ++ [_], _, _, _, by omega, by have := hbd3.out rs3 rfl; omega, by go_num, Lib.hid (by have := hacc3.out; simp; omega), Lib.hid (((HKh.out.trans (HKj.out.mono (by simp))).trans' HX.out (fun y hy => .inr (by have := (HXY.out y hy).1; omega))).setCell (.inl (by simp)) _), Lib.hid (A2.out.nextF hset (by simp <;> omega)), Lib.hid (HF9.out.set 1 (by simp) _), Lib.hid (own_keep A3.out hset (by exact fun g hg e => by have := (A3.out.lt g hg).1; omega)), Lib.hid (A4.out.stays sMt (fun k hk => ⟨⟨hk.1, Nat.lt_of_lt_of_le hk.2.1 hset.size, hk.2.2⟩, hset.block k hk.2.1 (by have := hk.1; simp; omega)⟩)), HB5, HL5⟩
          case measure => simp [intOf]; omega
        · have HT6 := stop3 (by
            by_cases hh : (k3 : Int) < n2
            · right; exact Classical.byContradiction fun h => hgo3 ⟨hh, h⟩
            · left; omega)
          obtain ⟨e1, e2⟩ := Prod.mk.inj HT6.out
          subst e1
          subst e2
          have HM7 : Hid (SlV VMt 8 wr (Nw w4.heap.size wr.heap.size) v7 ml) := Row.sl sMt HWh.out HOh.out (by omega) (P' := Nw w4.heap.size wr.heap.size) (fun k hk => ⟨hk.1, hk.2.1⟩) (fun g hg => HOh.out.lt g hg)
          have hgd2 : ((k3 : Int) < n2 ∧ t4 = none) ∨ ¬ ((k3 : Int) < n2) := by
            by_cases hh : (k3 : Int) < n2
            · left; exact ⟨hh, Classical.byContradiction fun h => hgo3 ⟨hh, h⟩⟩
            · right; exact hh
          clear stop3 HLh hbd3 HOh HWh hgo3 HT6
          obtain ⟨ma, mcap, rfl, _, _, _⟩ := HM7.out
          have HKall : Hid (Wk [(w.heap.size + 2), (w.heap.size + 1)] w0 wr) := (HKr.out.trans HK4.out).trans HKh.out
          have HZx := Lib.hid (HZ0.out.next HKall.out (by simp <;> omega))
          have HCx := Lib.hid (HC4.out.stays sCl (fun k hk => ⟨hk, HKh.out.block k (by have := hk.2; omega) (by simp; have := hk.1; omega)⟩))
          have HBx : Hid (Below w.heap.size w wr) := (HK0.out.below (by omega) (by simp)).trans (HKall.out.below (by omega) (by simp <;> omega))
          have kb := kept HBx.out hlg hk0
          have y0 : wr.cell? ⟨w.heap.size + 1, 0, none⟩ = some (.slice ca cl.length ccap) := (HFh.out 0 (by simp)).1
          have y1 : wr.cell? ⟨w.heap.size + 1, 1, none⟩ = some (.slice ma ml.length mcap) := (HFh.out 1 (by simp)).1
          have n0 : wr.cell? ⟨w.heap.size, 0, none⟩ = some (.slice none 0 0) := (HZx.out 0 (by simp)).1
          have n1 : wr.cell? ⟨w.heap.size, 1, none⟩ = some (.slice none 0 0) := (HZx.out 1 (by simp)).1
          have f0 : wr.frozen? ⟨w.heap.size, 0, none⟩ = false := (HZx.out 0 (by simp)).2
          have f1 : wr.frozen? ⟨w.heap.size, 1, none⟩ = false := (HZx.out 1 (by simp)).2
          cases t4 with
          | none =>
            have HN : Hid (getS (k :: rest) = none) := getS_none HT.out
            simp only [Option.isNone_none] at hflh
            rcases hgd2 with ⟨hg2, _⟩ | hg2
            all_goals
              go_wp2_with fail
              refine wp_region_held_drew (S := fun w' => w'.cell? ⟨w.heap.size + 2, 2, none⟩ = some (.bool true)) (by kernel_rfl) (by (try dsimp only); exact hflh) (fun hHeld => ?_)
              refine Drawn.tk 0 (some 69) rfl rfl (by assumption) ?_
              try simp only [Act.put, List.setIfInBounds_toArray, List.set_cons_zero, List.set_cons_succ]
              refine Drawn.tk 1 (some 70) rfl rfl (by assumption) ?_
              try simp only [Act.put, List.setIfInBounds_toArray, List.set_cons_zero, List.set_cons_succ]
              refine Drawn.tk 2 (some 71) rfl rfl (by assumption) ?_
              try simp only [Act.put, List.setIfInBounds_toArray, List.set_cons_zero, List.set_cons_succ]
              refine Drawn.tk 3 (some 72) rfl rfl (by assumption) ?_
              try simp only [Act.put, List.setIfInBounds_toArray, List.set_cons_zero, List.set_cons_succ]
              refine Drawn.tk 4 (some 73) rfl rfl (by assumption) ?_
              try simp only [Act.put, List.setIfInBounds_toArray, List.set_cons_zero, List.set_cons_succ]
              refine Drawn.ps 5 (some 74) rfl rfl (by assumption) ?_
              try simp only [Act.put, List.setIfInBounds_toArray, List.set_cons_zero, List.set_cons_succ]
              refine Drawn.ps 6 (some 75) rfl rfl (by assumption) ?_
              try simp only [Act.put, List.setIfInBounds_toArray, List.set_cons_zero, List.set_cons_succ]
              refine Drawn.ps 7 (some 76) rfl rfl (by assumption) ?_
              try simp only [Act.put, List.setIfInBounds_toArray, List.set_cons_zero, List.set_cons_succ]
              refine Drawn.ps 8 (some 77) rfl rfl (by assumption) ?_
              try simp only [Act.put, List.setIfInBounds_toArray, List.set_cons_zero, List.set_cons_succ]
              refine Drawn.ps 9 (some 78) rfl rfl (by assumption) ?_
              try simp only [Act.put, List.setIfInBounds_toArray, List.set_cons_zero, List.set_cons_succ]
              refine Drawn.ps 10 (some 79) rfl rfl (by assumption) ?_
              try simp only [Act.put, List.setIfInBounds_toArray, List.set_cons_zero, List.set_cons_succ]
              refine Drawn.ps 11 (some 80) rfl rfl (by assumption) ?_
              try simp only [Act.put, List.setIfInBounds_toArray, List.set_cons_zero, List.set_cons_succ]
              refine Drawn.tk 12 (some 81) rfl rfl (by assumption) ?_
              try simp only [Act.put, List.setIfInBounds_toArray, List.set_cons_zero, List.set_cons_succ]
              refine Drawn.tk 13 (some 82) rfl rfl (by assumption) ?_
              try simp only [Act.put, List.setIfInBounds_toArray, List.set_cons_zero, List.set_cons_succ]
              refine Drawn.ps 14 (some 83) rfl rfl (by assumption) ?_
              try simp only [Act.put, List.setIfInBounds_toArray, List.set_cons_zero, List.set_cons_succ]
              refine Drawn.ps 15 (some 84) rfl rfl (by assumption) ?_
              try simp only [Act.put, List.setIfInBounds_toArray, List.set_cons_zero, List.set_cons_succ]
              refine Drawn.ps 16 (some 85) rfl rfl (by assumption) ?_
              try simp only [Act.put, List.setIfInBounds_toArray, List.set_cons_zero, List.set_cons_succ]
              refine Drawn.ps 17 (some 86) rfl rfl (by assumption) ?_
              try simp only [Act.put, List.setIfInBounds_toArray, List.set_cons_zero, List.set_cons_succ]
              refine Drawn.tk 18 (some 87) rfl rfl (by assumption) ?_
              try simp only [Act.put, List.setIfInBounds_toArray, List.set_cons_zero, List.set_cons_succ]
              refine Drawn.tk 19 (some 88) rfl rfl (by assumption) ?_
              try simp only [Act.put, List.setIfInBounds_toArray, List.set_cons_zero, List.set_cons_succ]
              refine Drawn.ps 20 (some 89) rfl rfl (by assumption) ?_
              try simp only [Act.put, List.setIfInBounds_toArray, List.set_cons_zero, List.set_cons_succ]
              refine Drawn.ps 21 (some 90) rfl rfl (by assumption) ?_
              try simp only [Act.put, List.setIfInBounds_toArray, List.set_cons_zero, List.set_cons_succ]
              refine Drawn.ps 22 (some 91) rfl rfl (by assumption) ?_
              try simp only [Act.put, List.setIfInBounds_toArray, List.set_cons_zero, List.set_cons_succ]
              refine Drawn.ps 23 (some 92) rfl rfl (by assumption) ?_
              try simp only [Act.put, List.setIfInBounds_toArray, List.set_cons_zero, List.set_cons_succ]
              refine Drawn.ps 24 (some 93) rfl rfl (by assumption) ?_
              try simp only [Act.put, List.setIfInBounds_toArray, List.set_cons_zero, List.set_cons_succ]
              refine Drawn.ps 25 (some 94) rfl rfl (by assumption) ?_
              try simp only [Act.put, List.setIfInBounds_toArray, List.set_cons_zero, List.set_cons_succ]
              refine Drawn.ps 26 (some 95) rfl rfl (by assumption) ?_
              try simp only [Act.put, List.setIfInBounds_toArray, List.set_cons_zero, List.set_cons_succ]
              refine Drawn.tk 27 (some 96) rfl rfl (by assumption) ?_
              try simp only [Act.put, List.setIfInBounds_toArray, List.set_cons_zero, List.set_cons_succ]
              refine wpAnyH_done (by kernel_rfl) ?_ _
              go_wp2_with fail
              refine bodyPost_ret (v := .tuple #[.agg #[.slice none 0 0, .slice none 0 0], .int .i64 2]) (by simp [results, Try.results38, go_sem] <;> go_simp) rfl ?_
              refine ⟨⟨_, by rw [HN.out] <;> rfl, by rw [HN.out]; exact nil_file _ _⟩, ?_⟩
              exact HBx.out.trans (Below.setCell (Below.setCell (Below.refl _ _) (by simp) _) (by simp) _).drew
          | some r4 =>
            have HP := Lib.hid (getS_some HT.out)
            simp only [Option.isNone_some] at hflh
            rcases hgd2 with ⟨_, hg2⟩ | hg2
            · cases hg2
            obtain ⟨_, vB, kk, _, _, c1, _, hkk, hrs, _, _⟩ := HSh.out
            have hr4 := hrs r4 rfl
            have hlr : r4.length = rest.length + 1 - kk := by rw [hr4, List.length_drop]; simp
            have hkk' : kk ≤ rest.length + 1 := by simpa using hkk
            clear hrs hkk
            by_cases hend : kk = rest.length + 1
            · subst hend
              obtain rfl : r4 = [] := List.eq_nil_of_length_eq_zero (by omega)
              have hnb : (((rest.length + 1 : Nat) : Int) != (rest.length : Int) + 1) = false := by simp
              by_cases hk00 : (k.toNat : Int) = 0
              · have HN : Hid (getS (k :: rest) = none) := by
                  show _ = _
                  simp only [getS, HP.out]
                  rw [if_pos (.inl hk00)]
                have hkb : ((k.toNat : Int) == 0) = true := by rw [hk00]; rfl
                have HK00 := Lib.hid hk00
                clear hk00
                go_wp2_with fail
                refine wp_region_held_drew (S := fun w' => w'.cell? ⟨w.heap.size + 2, 2, none⟩ = some (.bool false) ∧ w'.cell? ⟨w.heap.size + 2, 1, none⟩ = some (.int .i64 ((rest.length + 1 : Nat) : Int)) ∧ w'.cell? ⟨g, o, none⟩ = some (.int .u8 k.toNat)) (by kernel_rfl) (by (try dsimp only); exact ⟨hflh, c1, kb⟩) (fun hHeld => ?_)
                refine Drawn.tk 0 (some 69) rfl rfl (by assumption) ?_
                try simp only [Act.put, List.setIfInBounds_toArray, List.set_cons_zero, List.set_cons_succ]
                refine Drawn.tk 1 (some 70) rfl rfl (by assumption) ?_
                try simp only [Act.put, List.setIfInBounds_toArray, List.set_cons_zero, List.set_cons_succ]
                refine Drawn.tk 2 (some 71) rfl rfl (by assumption) ?_
                try simp only [Act.put, List.setIfInBounds_toArray, List.set_cons_zero, List.set_cons_succ]
                refine Drawn.tk 3 (some 72) rfl rfl (by assumption) ?_
                try simp only [Act.put, List.setIfInBounds_toArray, List.set_cons_zero, List.set_cons_succ]
                refine Drawn.tk 4 (some 73) rfl rfl (by assumption) ?_
                try simp only [Act.put, List.setIfInBounds_toArray, List.set_cons_zero, List.set_cons_succ]
                refine Drawn.tk 5 (some 74) rfl rfl (by assumption) ?_
                try simp only [Act.put, List.setIfInBounds_toArray, List.set_cons_zero, List.set_cons_succ]
                refine Drawn.tk 6 (some 75) rfl rfl (by assumption) ?_
                try simp only [Act.put, List.setIfInBounds_toArray, List.set_cons_zero, List.set_cons_succ]
                refine Drawn.tk 7 (some 76) rfl rfl (by assumption) ?_
                try simp only [Act.put, List.setIfInBounds_toArray, List.set_cons_zero, List.set_cons_succ]
                refine Drawn.tk 8 (some 77) rfl rfl (by assumption) ?_
                try simp only [Act.put, List.setIfInBounds_toArray, List.set_cons_zero, List.set_cons_succ]
                refine Drawn.tk 9 (some 78) rfl rfl (by assumption) ?_
                try simp only [Act.put, List.setIfInBounds_toArray, List.set_cons_zero, List.set_cons_succ]
                refine Drawn.tk 10 (some 79) rfl rfl (by assumption) ?_
                try simp only [Act.put, List.setIfInBounds_toArray, List.set_cons_zero, List.set_cons_succ]
                refine Drawn.tk 11 (some 80) rfl rfl (by assumption) ?_
                try simp only [Act.put, List.setIfInBounds_toArray, List.set_cons_zero, List.set_cons_succ]
                refine Drawn.tk 12 (some 81) rfl rfl (by assumption) ?_
                try simp only [Act.put, List.setIfInBounds_toArray, List.set_cons_zero, List.set_cons_succ]
                refine Drawn.tk 13 (some 82) rfl rfl (by assumption) ?_
                try simp only [Act.put, List.setIfInBounds_toArray, List.set_cons_zero, List.set_cons_succ]
                refine Drawn.tk 14 (some 83) rfl rfl (by assumption) ?_
                try simp only [Act.put, List.setIfInBounds_toArray, List.set_cons_zero, List.set_cons_succ]
                refine Drawn.tk 15 (some 84) rfl rfl (by assumption) ?_
                try simp only [Act.put, List.setIfInBounds_toArray, List.set_cons_zero, List.set_cons_succ]
                refine Drawn.tk 16 (some 85) rfl rfl (by assumption) ?_
                try simp only [Act.put, List.setIfInBounds_toArray, List.set_cons_zero, List.set_cons_succ]
                refine Drawn.tk 17 (some 86) rfl rfl (by assumption) ?_
                try simp only [Act.put, List.setIfInBounds_toArray, List.set_cons_zero, List.set_cons_succ]
                refine Drawn.tk 18 (some 87) rfl rfl (by assumption) ?_
                try simp only [Act.put, List.setIfInBounds_toArray, List.set_cons_zero, List.set_cons_succ]
                refine Drawn.tk 19 (some 88) rfl rfl (by assumption) ?_
                try simp only [Act.put, List.setIfInBounds_toArray, List.set_cons_zero, List.set_cons_succ]
                refine Drawn.ps 20 (some 89) rfl rfl (by assumption) ?_
                try simp only [Act.put, List.setIfInBounds_toArray, List.set_cons_zero, List.set_cons_succ]
                refine Drawn.ps 21 (some 90) rfl rfl (by assumption) ?_
                try simp only [Act.put, List.setIfInBounds_toArray, List.set_cons_zero, List.set_cons_succ]
                refine Drawn.ps 22 (some 91) rfl rfl (by assumption) ?_
                try simp only [Act.put, List.setIfInBounds_toArray, List.set_cons_zero, List.set_cons_succ]
                refine Drawn.ps 23 (some 92) rfl rfl (by assumption) ?_
                try simp only [Act.put, List.setIfInBounds_toArray, List.set_cons_zero, List.set_cons_succ]
                refine Drawn.ps 24 (some 93) rfl rfl (by assumption) ?_
                try simp only [Act.put, List.setIfInBounds_toArray, List.set_cons_zero, List.set_cons_succ]
                refine Drawn.ps 25 (some 94) rfl rfl (by assumption) ?_
                try simp only [Act.put, List.setIfInBounds_toArray, List.set_cons_zero, List.set_cons_succ]
                refine Drawn.ps 26 (some 95) rfl rfl (by assumption) ?_
                try simp only [Act.put, List.setIfInBounds_toArray, List.set_cons_zero, List.set_cons_succ]
                refine Drawn.tk 27 (some 96) rfl rfl (by assumption) ?_
                try simp only [Act.put, List.setIfInBounds_toArray, List.set_cons_zero, List.set_cons_succ]
                refine wpAnyH_done (by kernel_rfl) ?_ _
                go_wp2_with fail
                refine bodyPost_ret (v := .tuple #[.agg #[.slice none 0 0, .slice none 0 0], .int .i64 2]) (by simp [results, Try.results38, go_sem] <;> go_simp) rfl ?_
                refine ⟨⟨_, by rw [HN.out] <;> rfl, by rw [HN.out]; exact nil_file _ _⟩, ?_⟩
                exact HBx.out.trans (Below.setCell (Below.setCell (Below.refl _ _) (by simp) _) (by simp) _).drew
              · have hkb : ((k.toNat : Int) == 0) = false := by rw [beq_eq_false_iff_ne]; exact hk00
                have HK00 := Lib.hid hk00
                have hV4 : VFi wr wr.heap.size (.agg #[.slice ca cl.length ccap, .slice ma ml.length mcap]) ⟨cl, ml⟩ := ⟨_, _, rfl, HCx.out.sl (eCl (fun k hk => by have := hk.2; omega)) (fun k hk => by have := hk.2; omega), HM7.out.sl (eMt (fun k hk => hk.2)) (fun k hk => hk.2)⟩
                have HV4 := Lib.hid hV4
                have hl0 := lt_cell' n0
                have hl1 := lt_cell' y0
                have hlb := lt_cell' kb
                have hlf := lt_cell' hflh
                clear hk00 hV4
                go_wp2_with fail
                refine wp_region_held_drew (S := fun w' => w'.cell? ⟨w.heap.size + 2, 2, none⟩ = some (.bool false) ∧ w'.cell? ⟨w.heap.size + 2, 1, none⟩ = some (.int .i64 ((rest.length + 1 : Nat) : Int)) ∧ w'.cell? ⟨g, o, none⟩ = some (.int .u8 k.toNat) ∧ w'.cell? ⟨w.heap.size + 1, 0, none⟩ = some (.slice ca cl.length ccap) ∧ w'.cell? ⟨w.heap.size + 1, 1, none⟩ = some (.slice ma ml.length mcap)) (by kernel_rfl) (by (try dsimp only); exact ⟨hflh, c1, kb, y0, y1⟩) (fun hHeld => ?_)
                refine Drawn.tk 0 (some 69) rfl rfl (by assumption) ?_
                try simp only [Act.put, List.setIfInBounds_toArray, List.set_cons_zero, List.set_cons_succ]
                refine Drawn.tk 1 (some 70) rfl rfl (by assumption) ?_
                try simp only [Act.put, List.setIfInBounds_toArray, List.set_cons_zero, List.set_cons_succ]
                refine Drawn.tk 2 (some 71) rfl rfl (by assumption) ?_
                try simp only [Act.put, List.setIfInBounds_toArray, List.set_cons_zero, List.set_cons_succ]
                refine Drawn.tk 3 (some 72) rfl rfl (by assumption) ?_
                try simp only [Act.put, List.setIfInBounds_toArray, List.set_cons_zero, List.set_cons_succ]
                refine Drawn.tk 4 (some 73) rfl rfl (by assumption) ?_
                try simp only [Act.put, List.setIfInBounds_toArray, List.set_cons_zero, List.set_cons_succ]
                refine Drawn.tk 5 (some 74) rfl rfl (by assumption) ?_
                try simp only [Act.put, List.setIfInBounds_toArray, List.set_cons_zero, List.set_cons_succ]
                refine Drawn.tk 6 (some 75) rfl rfl (by assumption) ?_
                try simp only [Act.put, List.setIfInBounds_toArray, List.set_cons_zero, List.set_cons_succ]
                refine Drawn.tk 7 (some 76) rfl rfl (by assumption) ?_
                try simp only [Act.put, List.setIfInBounds_toArray, List.set_cons_zero, List.set_cons_succ]
                refine Drawn.tk 8 (some 77) rfl rfl (by assumption) ?_
                try simp only [Act.put, List.setIfInBounds_toArray, List.set_cons_zero, List.set_cons_succ]
                refine Drawn.tk 9 (some 78) rfl rfl (by assumption) ?_
                try simp only [Act.put, List.setIfInBounds_toArray, List.set_cons_zero, List.set_cons_succ]
                refine Drawn.tk 10 (some 79) rfl rfl (by assumption) ?_
                try simp only [Act.put, List.setIfInBounds_toArray, List.set_cons_zero, List.set_cons_succ]
                refine Drawn.tk 11 (some 80) rfl rfl (by assumption) ?_
                try simp only [Act.put, List.setIfInBounds_toArray, List.set_cons_zero, List.set_cons_succ]
                refine Drawn.tk 12 (some 81) rfl rfl (by assumption) ?_
                try simp only [Act.put, List.setIfInBounds_toArray, List.set_cons_zero, List.set_cons_succ]
                refine Drawn.tk 13 (some 82) rfl rfl (by assumption) ?_
                try simp only [Act.put, List.setIfInBounds_toArray, List.set_cons_zero, List.set_cons_succ]
                refine Drawn.tk 14 (some 83) rfl rfl (by assumption) ?_
                try simp only [Act.put, List.setIfInBounds_toArray, List.set_cons_zero, List.set_cons_succ]
                refine Drawn.tk 15 (some 84) rfl rfl (by assumption) ?_
                try simp only [Act.put, List.setIfInBounds_toArray, List.set_cons_zero, List.set_cons_succ]
                refine Drawn.tk 16 (some 85) rfl rfl (by assumption) ?_
                try simp only [Act.put, List.setIfInBounds_toArray, List.set_cons_zero, List.set_cons_succ]
                refine Drawn.tk 17 (some 86) rfl rfl (by assumption) ?_
                try simp only [Act.put, List.setIfInBounds_toArray, List.set_cons_zero, List.set_cons_succ]
                refine Drawn.tk 18 (some 87) rfl rfl (by assumption) ?_
                try simp only [Act.put, List.setIfInBounds_toArray, List.set_cons_zero, List.set_cons_succ]
                refine Drawn.tk 19 (some 88) rfl rfl (by assumption) ?_
                try simp only [Act.put, List.setIfInBounds_toArray, List.set_cons_zero, List.set_cons_succ]
                refine Drawn.tk 20 (some 89) rfl rfl (by assumption) ?_
                try simp only [Act.put, List.setIfInBounds_toArray, List.set_cons_zero, List.set_cons_succ]
                refine Drawn.tk 22 (some 91) rfl rfl (by assumption) ?_
                try simp only [Act.put, List.setIfInBounds_toArray, List.set_cons_zero, List.set_cons_succ]
                refine Drawn.tk 23 (some 92) rfl rfl (by assumption) ?_
                try simp only [Act.put, List.setIfInBounds_toArray, List.set_cons_zero, List.set_cons_succ]
                refine Drawn.tk 24 (some 93) rfl rfl (by assumption) ?_
                try simp only [Act.put, List.setIfInBounds_toArray, List.set_cons_zero, List.set_cons_succ]
                refine Drawn.tk 25 (some 94) rfl rfl (by assumption) ?_
                try simp only [Act.put, List.setIfInBounds_toArray, List.set_cons_zero, List.set_cons_succ]
                refine wpAnyH_ready (rs := [21]) (by kernel_rfl) (by simp) ?_
                refine AllReadyH.cons rfl (fun K hK => ?_) AllReadyH.nil
                go_simp
                go_at_call 34
                refine (rform12 ⟨cl, ml⟩ _ _ (by first | exact HV4.out | exact HV4.out.mono ((Below.refl _ _).drew) (Nat.le_refl _))).mono ?_
                rintro e w5 ⟨rfl, hb⟩
                replace hb : Below wr.heap.size wr w5 := by first | exact hb | exact ((Below.refl _ _).drew).trans hb
                have x0 := kept hb hl1 y0
                have x1 := kept hb hl1 y1
                have xk := kept hb hlb kb
                have xf := kept hb hlf hflh
                have xc := kept hb hlf c1
                have q0 := kept hb hl0 n0
                have q1 := kept hb hl0 n1
                have z0 := (hb.frozen (p := ⟨w.heap.size, 0, none⟩) hl0).trans f0
                have z1 := (hb.frozen (p := ⟨w.heap.size, 1, none⟩) hl0).trans f1
                have hbs := HBx.out.size
                have HB5 := Lib.hid (HBx.out.trans (hb.mono hbs))
                have HC5 := Lib.hid (HCx.out.stays sCl (w' := w5) (P' := Nw (w.heap.size + 1) w5.heap.size) (fun k hk => ⟨⟨by have := hk.1; omega, by have := hk.2; have := hb.size; omega⟩, hb.block k (by have := hk.2; omega)⟩))
                have HM5 := Lib.hid (HM7.out.stays sMt (w' := w5) (P' := Nw (w.heap.size + 1) w5.heap.size) (fun k hk => ⟨⟨by have := hk.1; omega, Nat.lt_of_lt_of_le hk.2 hb.size⟩, hb.block k hk.2⟩))
                clear hb hflh c1 kb y0 y1 n0 n1 f0 f1
                go_wp2_with fail
                refine hK.out _ _ (by (try dsimp only); exact ⟨xf, xc, xk, x0, x1⟩) (fun hHeld => ?_)
                clear hK K
                try simp only [Act.put, List.setIfInBounds_toArray, List.set_cons_zero, List.set_cons_succ]
                refine Drawn.tk 26 (some 95) rfl rfl (by assumption) ?_
                try simp only [Act.put, List.setIfInBounds_toArray, List.set_cons_zero, List.set_cons_succ]
                refine Drawn.tk 27 (some 96) rfl rfl (by assumption) ?_
                try simp only [Act.put, List.setIfInBounds_toArray, List.set_cons_zero, List.set_cons_succ]
                refine wpAnyH_done (by kernel_rfl) ?_ _
                by_cases hff : Bytes.form ⟨cl, ml⟩ = k.toNat
                · have HN : Hid (getS (k :: rest) = some ⟨cl, ml⟩) := by
                    show _ = _
                    simp only [getS, HP.out]
                    rw [if_neg (by rintro (h | h); · exact HK00.out h
                                   · exact h hff)]
                  have hfb : (Bytes.form ⟨cl, ml⟩ == (k.toNat : Int)) = true := by rw [hff]; simp
                  have hfc : (Bytes.form ⟨cl, ml⟩ != (k.toNat : Int)) = false := by rw [hff]; simp
                  have hkw : IntKind.i64.wrap (k.toNat : Int) = k.toNat := by have := k.toNat_lt; simp [IntKind.wrap, IntKind.bits, IntKind.signed]; omega
                  have hfw0 : (Bytes.form ⟨cl, ml⟩ != IntKind.i64.wrap (k.toNat : Int)) = false := by rw [hkw]; exact hfc
                  have HFF := Lib.hid hff
                  clear hff
                  go_wp2_with fail
                  refine bodyPost_ret (v := .tuple #[.agg #[.slice ca cl.length ccap, .slice ma ml.length mcap], .int .i64 0]) (by simp [results, Try.results38, go_sem] <;> go_simp) rfl ?_
                  have hfin : Below (w.heap.size) w5 _ := Below.setCell (Below.setCell (Below.refl _ w5) (p := ⟨w.heap.size, 0, none⟩) (by simp) (.slice ca cl.length ccap)) (p := ⟨w.heap.size, 1, none⟩) (by simp) (.slice ma ml.length mcap)
                  have hfw : Wk [w.heap.size] w5 _ := ((Wk.refl [w.heap.size] w5).setCell (p := ⟨w.heap.size, 0, none⟩) (.inl (by simp)) (.slice ca cl.length ccap)).setCell (p := ⟨w.heap.size, 1, none⟩) (.inl (by simp)) (.slice ma ml.length mcap)
                  have hsz5 := hfw.size
                  have hC6 := HC5.out.stays sCl (P' := Nw (w.heap.size + 1) _) (fun k hk => ⟨⟨hk.1, Nat.lt_of_lt_of_le hk.2 hsz5⟩, hfw.block k hk.2 (by have := hk.1; simp; omega)⟩)
                  have hM6 := HM5.out.stays sMt (P' := Nw (w.heap.size + 1) _) (fun k hk => ⟨⟨hk.1, Nat.lt_of_lt_of_le hk.2 hsz5⟩, hfw.block k hk.2 (by have := hk.1; simp; omega)⟩)
                  exact ⟨⟨_, by rw [HN.out] <;> rfl, by rw [HN.out]; exact ⟨_, _, rfl, hC6.sl (eCl (fun k hk => hk.2)) (fun k hk => hk.2), hM6.sl (eMt (fun k hk => hk.2)) (fun k hk => hk.2)⟩⟩, HB5.out.trans hfin⟩
                · have HN : Hid (getS (k :: rest) = none) := by
                    show _ = _
                    simp only [getS, HP.out]
                    rw [if_pos (.inr hff)]
                  have hfb : (Bytes.form ⟨cl, ml⟩ == (k.toNat : Int)) = false := by rw [beq_eq_false_iff_ne]; exact hff
                  have hfc : (Bytes.form ⟨cl, ml⟩ != (k.toNat : Int)) = true := by rw [bne_iff_ne]; exact hff
                  have hkw : IntKind.i64.wrap (k.toNat : Int) = k.toNat := by have := k.toNat_lt; simp [IntKind.wrap, IntKind.bits, IntKind.signed]; omega
                  have hfw0 : (Bytes.form ⟨cl, ml⟩ != IntKind.i64.wrap (k.toNat : Int)) = true := by rw [hkw]; exact hfc
                  have HFF := Lib.hid hff
                  clear hff
                  go_wp2_with fail
                  refine bodyPost_ret (v := .tuple #[.agg #[.slice none 0 0, .slice none 0 0], .int .i64 2]) (by simp [results, Try.results38, go_sem] <;> go_simp) rfl ?_
                  refine ⟨⟨_, by rw [HN.out] <;> rfl, by rw [HN.out]; exact nil_file _ _⟩, ?_⟩
                  exact HB5.out.trans (Below.setCell (Below.setCell (Below.refl _ _) (by simp) _) (by simp) _)
            · have HN : Hid (getS (k :: rest) = none) := by
                show _ = _
                simp only [getS, HP.out]
                match r4, hlr with
                | [], h => exact absurd h (by simp <;> omega)
                | _ :: _, _ => rfl
              have hnb : ((kk : Int) != (rest.length : Int) + 1) = true := by rw [bne_iff_ne]; omega
              clear hend
              go_wp2_with fail
              refine wp_region_held_drew (S := fun w' => w'.cell? ⟨w.heap.size + 2, 2, none⟩ = some (.bool false) ∧ w'.cell? ⟨w.heap.size + 2, 1, none⟩ = some (.int .i64 kk)) (by kernel_rfl) (by (try dsimp only); exact ⟨hflh, c1⟩) (fun hHeld => ?_)
              refine Drawn.tk 0 (some 69) rfl rfl (by assumption) ?_
              try simp only [Act.put, List.setIfInBounds_toArray, List.set_cons_zero, List.set_cons_succ]
              refine Drawn.tk 1 (some 70) rfl rfl (by assumption) ?_
              try simp only [Act.put, List.setIfInBounds_toArray, List.set_cons_zero, List.set_cons_succ]
              refine Drawn.tk 2 (some 71) rfl rfl (by assumption) ?_
              try simp only [Act.put, List.setIfInBounds_toArray, List.set_cons_zero, List.set_cons_succ]
              refine Drawn.tk 3 (some 72) rfl rfl (by assumption) ?_
              try simp only [Act.put, List.setIfInBounds_toArray, List.set_cons_zero, List.set_cons_succ]
              refine Drawn.tk 4 (some 73) rfl rfl (by assumption) ?_
              try simp only [Act.put, List.setIfInBounds_toArray, List.set_cons_zero, List.set_cons_succ]
              refine Drawn.tk 5 (some 74) rfl rfl (by assumption) ?_
              try simp only [Act.put, List.setIfInBounds_toArray, List.set_cons_zero, List.set_cons_succ]
              refine Drawn.tk 6 (some 75) rfl rfl (by assumption) ?_
              try simp only [Act.put, List.setIfInBounds_toArray, List.set_cons_zero, List.set_cons_succ]
              refine Drawn.tk 7 (some 76) rfl rfl (by assumption) ?_
              try simp only [Act.put, List.setIfInBounds_toArray, List.set_cons_zero, List.set_cons_succ]
              refine Drawn.tk 8 (some 77) rfl rfl (by assumption) ?_
              try simp only [Act.put, List.setIfInBounds_toArray, List.set_cons_zero, List.set_cons_succ]
              refine Drawn.tk 9 (some 78) rfl rfl (by assumption) ?_
              try simp only [Act.put, List.setIfInBounds_toArray, List.set_cons_zero, List.set_cons_succ]
              refine Drawn.tk 10 (some 79) rfl rfl (by assumption) ?_
              try simp only [Act.put, List.setIfInBounds_toArray, List.set_cons_zero, List.set_cons_succ]
              refine Drawn.tk 11 (some 80) rfl rfl (by assumption) ?_
              try simp only [Act.put, List.setIfInBounds_toArray, List.set_cons_zero, List.set_cons_succ]
              refine Drawn.tk 12 (some 81) rfl rfl (by assumption) ?_
              try simp only [Act.put, List.setIfInBounds_toArray, List.set_cons_zero, List.set_cons_succ]
              refine Drawn.tk 13 (some 82) rfl rfl (by assumption) ?_
              try simp only [Act.put, List.setIfInBounds_toArray, List.set_cons_zero, List.set_cons_succ]
              refine Drawn.ps 14 (some 83) rfl rfl (by assumption) ?_
              try simp only [Act.put, List.setIfInBounds_toArray, List.set_cons_zero, List.set_cons_succ]
              refine Drawn.ps 15 (some 84) rfl rfl (by assumption) ?_
              try simp only [Act.put, List.setIfInBounds_toArray, List.set_cons_zero, List.set_cons_succ]
              refine Drawn.ps 16 (some 85) rfl rfl (by assumption) ?_
              try simp only [Act.put, List.setIfInBounds_toArray, List.set_cons_zero, List.set_cons_succ]
              refine Drawn.ps 17 (some 86) rfl rfl (by assumption) ?_
              try simp only [Act.put, List.setIfInBounds_toArray, List.set_cons_zero, List.set_cons_succ]
              refine Drawn.tk 18 (some 87) rfl rfl (by assumption) ?_
              try simp only [Act.put, List.setIfInBounds_toArray, List.set_cons_zero, List.set_cons_succ]
              refine Drawn.tk 19 (some 88) rfl rfl (by assumption) ?_
              try simp only [Act.put, List.setIfInBounds_toArray, List.set_cons_zero, List.set_cons_succ]
              refine Drawn.ps 20 (some 89) rfl rfl (by assumption) ?_
              try simp only [Act.put, List.setIfInBounds_toArray, List.set_cons_zero, List.set_cons_succ]
              refine Drawn.ps 21 (some 90) rfl rfl (by assumption) ?_
              try simp only [Act.put, List.setIfInBounds_toArray, List.set_cons_zero, List.set_cons_succ]
              refine Drawn.ps 22 (some 91) rfl rfl (by assumption) ?_
              try simp only [Act.put, List.setIfInBounds_toArray, List.set_cons_zero, List.set_cons_succ]
              refine Drawn.ps 23 (some 92) rfl rfl (by assumption) ?_
              try simp only [Act.put, List.setIfInBounds_toArray, List.set_cons_zero, List.set_cons_succ]
              refine Drawn.ps 24 (some 93) rfl rfl (by assumption) ?_
              try simp only [Act.put, List.setIfInBounds_toArray, List.set_cons_zero, List.set_cons_succ]
              refine Drawn.ps 25 (some 94) rfl rfl (by assumption) ?_
              try simp only [Act.put, List.setIfInBounds_toArray, List.set_cons_zero, List.set_cons_succ]
              refine Drawn.ps 26 (some 95) rfl rfl (by assumption) ?_
              try simp only [Act.put, List.setIfInBounds_toArray, List.set_cons_zero, List.set_cons_succ]
              refine Drawn.tk 27 (some 96) rfl rfl (by assumption) ?_
              try simp only [Act.put, List.setIfInBounds_toArray, List.set_cons_zero, List.set_cons_succ]
              refine wpAnyH_done (by kernel_rfl) ?_ _
              go_wp2_with fail
              refine bodyPost_ret (v := .tuple #[.agg #[.slice none 0 0, .slice none 0 0], .int .i64 2]) (by simp [results, Try.results38, go_sem] <;> go_simp) rfl ?_
              refine ⟨⟨_, by rw [HN.out] <;> rfl, by rw [HN.out]; exact nil_file _ _⟩, ?_⟩
              exact HBx.out.trans (Below.setCell (Below.setCell (Below.refl _ _) (by simp) _) (by simp) _).drew
end Wire
end Go.Proofs.Ytncmhenfgbcihaa

/- Bytes as a string. -/
namespace Go.Proofs.Ytncmhenfgbcihaa
open Go.RowKit
set_option linter.unusedSimpArgs false
set_option linter.unusedVariables false
namespace Wire
open Num Rd D Bytes HierW

/-- a string of bytes -/
def S (bs : List UInt8) : ByteArray := ⟨bs.toArray⟩
theorem S_size (bs : List UInt8) : (S bs).size = bs.length := rfl
theorem S_app (a b : List UInt8) : S a ++ S b = S (a ++ b) := ByteArray.mk_append_mk a b
theorem S_inj {a b : List UInt8} (h : S a = S b) : a = b := by
  have := congrArg (fun x : ByteArray => x.data.toList) h
  simpa [S] using this
theorem S_nil : S [] = ⟨#[]⟩ := rfl

/-- a block of bytes, as a string -/
theorem convS (w : World) (b cap : Nat) (bs : List UInt8) (h : ∀ i (h : i < bs.length), w.cell? ⟨b, i, none⟩ = some (.int .u8 bs[i].toNat)) :
    (convert 50 9 (.slice (some ⟨b, 0, none⟩) bs.length cap)).run Try.prog w = .ok (.string (S bs)) w := by
  have := run_convert_bytes_arg (P := Try.prog) w 50 5 Try.underlying50 Try.underlying5 b 0 bs.length cap (bs.map fun c => (c.toNat : Int)) (by simp) (fun i hi => by
    rw [Nat.zero_add, h i hi]; simp [List.getD, hi]) 9 Try.underlying9
  have e : strOfNums (bs.map fun c => (c.toNat : Int)) = S bs := by
    unfold strOfNums S
    rw [List.map_map, show ((fun n : Int => UInt8.ofNat n.toNat) ∘ fun c : UInt8 => (c.toNat : Int)) = id from funext fun c => by simp, List.map_id]
  rw [this, e]
end Wire
end Go.Proofs.Ytncmhenfgbcihaa

/- The reference's Same, at two files with the same data: it answers true. -/
namespace Go.Proofs.Ytncmhenfgbcihaa
open Go.RowKit
set_option linter.unusedSimpArgs false
set_option linter.unusedVariables false
namespace Wire
open Num Rd D Bytes HierW

theorem nameWs (P : World → Prop) {w : World} {Q : World → Prop} (h : P w) (k : ∀ W, P W → Q W) : Q w := k w h
theorem allocKs {w : World} {b o : Nat} {v : Value} (h : w.cell? ⟨b, o, none⟩ = some v) (x : Obj) : (w.alloc x).cell? ⟨b, o, none⟩ = some v := by rw [World.cell?_alloc_lt (h := lt_cell' h)]; exact h

set_option maxRecDepth 100000 in
set_option maxHeartbeats 2000000 in
theorem typesS (v1 v2 : Value) (l : List Ty) (w : World) (hs : Sl 2 ETy w w.heap.size v1 l) (hs2 : Sl 2 ETy w w.heap.size v2 l) :
    Calls Try.prog 69 #[v1, v2] w fun e w' => e = .returned (.bool true) ∧ Below w.heap.size w w' := by
  obtain ⟨a, cap, rfl, hlc, hcc, hel⟩ := hs
  obtain ⟨a2, cap2, rfl, hlc2, hcc2, hel2⟩ := hs2
  go_enter Try.func69, Try.ntmps69
  go_wp2
  go_loopw [5] (fun i wr => ∃ k : Nat, k ≤ l.length ∧ i = .int .i64 k ∧ Below w.heap.size w wr) (fun i _ => l.length - (intOf i).toNat)
  case atStart => exact ⟨0, by omega, rfl, (by repeat' (first | with_reducible exact Below.refl _ _ | with_reducible assumption | exact Nat.le_refl _ | with_reducible refine Go.Proofs.Ytncmhenfgbcihaa.Rd.below_drewN ?_ _ | with_reducible refine Below.alloc ?_ ?_ _ | with_reducible refine Below.setCell ?_ ?_ _ | with_reducible refine Below.drew ?_ | omega | (simp; omega) | (simp; done)))⟩
  case round =>
    obtain ⟨k, hk, rfl, hb⟩ := hrel
    by_cases hlt : k < l.length
    · obtain ⟨b1, o1, rfl, hb1, he⟩ := hel k hlt
      obtain ⟨b2, o2, rfl, hb2, he2⟩ := hel2 k hlt
      obtain ⟨x, hx⟩ := at_of hlt
      rw [hx.out] at he he2
      obtain ⟨y0, y1, _, _⟩ := he
      obtain ⟨q0, q1, _, _⟩ := he2
      have c0 := kept hb hb1 y0
      have d0 := kept hb hb2 q0
      have c1 := kept hb hb1 y1
      have d1 := kept hb hb2 q1
      have HB := Lib.hid hb
      have hI : (0 : Int) ≤ (k : Int) ∧ (k : Int) < l.length := ⟨by omega, by omega⟩
      obtain ⟨hI1, hI2⟩ := hI
      clear hel hel2 hb
      go_wp2_with fail
      go_quiet (fail)
      go_wp2_with fail
      go_roundw
      case rel => exact ⟨k + 1, by omega, by go_num, below_drewN HB.out _⟩
      case measure => simp [intOf]; omega
    · have hge : ¬ (k : Int) < l.length := by omega
      clear hel hel2
      go_wp2
      go_ret
      exact ⟨ret_bool rfl, hb⟩

set_option maxRecDepth 100000 in
set_option maxHeartbeats 2000000 in
theorem intsS (v1 v2 : Value) (l : List Int) (w : World) (hs : Sl 1 EInt w w.heap.size v1 l) (hs2 : Sl 1 EInt w w.heap.size v2 l) :
    Calls Try.prog 70 #[v1, v2] w fun e w' => e = .returned (.bool true) ∧ Below w.heap.size w w' := by
  obtain ⟨a, cap, rfl, hlc, hcc, hel⟩ := hs
  obtain ⟨a2, cap2, rfl, hlc2, hcc2, hel2⟩ := hs2
  go_enter Try.func70, Try.ntmps70
  go_wp2
  go_loopw [5] (fun i wr => ∃ k : Nat, k ≤ l.length ∧ i = .int .i64 k ∧ Below w.heap.size w wr) (fun i _ => l.length - (intOf i).toNat)
  case atStart => exact ⟨0, by omega, rfl, (by repeat' (first | with_reducible exact Below.refl _ _ | with_reducible assumption | exact Nat.le_refl _ | with_reducible refine Go.Proofs.Ytncmhenfgbcihaa.Rd.below_drewN ?_ _ | with_reducible refine Below.alloc ?_ ?_ _ | with_reducible refine Below.setCell ?_ ?_ _ | with_reducible refine Below.drew ?_ | omega | (simp; omega) | (simp; done)))⟩
  case round =>
    obtain ⟨k, hk, rfl, hb⟩ := hrel
    by_cases hlt : k < l.length
    · obtain ⟨b1, o1, rfl, hb1, he⟩ := hel k hlt
      obtain ⟨b2, o2, rfl, hb2, he2⟩ := hel2 k hlt
      obtain ⟨x, hx⟩ := at_of hlt
      rw [hx.out] at he he2
      rw [Nat.mul_one] at he he2
      obtain ⟨y0, _⟩ := he
      obtain ⟨q0, _⟩ := he2
      have c0 := kept hb hb1 y0
      have d0 := kept hb hb2 q0
      have HB := Lib.hid hb
      have hI : (0 : Int) ≤ (k : Int) ∧ (k : Int) < l.length := ⟨by omega, by omega⟩
      obtain ⟨hI1, hI2⟩ := hI
      clear hel hel2 hb
      go_wp2_with fail
      go_quiet (fail)
      go_wp2_with fail
      go_roundw
      case rel => exact ⟨k + 1, by omega, by go_num, below_drewN HB.out _⟩
      case measure => simp [intOf]; omega
    · have hge : ¬ (k : Int) < l.length := by omega
      clear hel hel2
      go_wp2
      go_ret
      exact ⟨ret_bool rfl, hb⟩

set_option maxRecDepth 100000 in
set_option maxHeartbeats 4000000 in
theorem classesS (v1 v2 : Value) (l : List Cls) (w : World) (hs : Sl 2 ECls w w.heap.size v1 l) (hs2 : Sl 2 ECls w w.heap.size v2 l) :
    Calls Try.prog 68 #[v1, v2] w fun e w' => e = .returned (.bool true) ∧ Below w.heap.size w w' := by
  obtain ⟨a, cap, rfl, hlc, hcc, hel⟩ := hs
  obtain ⟨a2, cap2, rfl, hlc2, hcc2, hel2⟩ := hs2
  go_enter Try.func68, Try.ntmps68
  go_wp2
  go_loopw [5] (fun i wr => ∃ k : Nat, k ≤ l.length ∧ i = .int .i64 k ∧ Hid (Below w.heap.size w wr)) (fun i _ => l.length - (intOf i).toNat)
  case atStart => exact ⟨0, by omega, rfl, Lib.hid (by repeat' (first | with_reducible exact Below.refl _ _ | with_reducible assumption | exact Nat.le_refl _ | with_reducible refine Go.Proofs.Ytncmhenfgbcihaa.Rd.below_drewN ?_ _ | with_reducible refine Below.alloc ?_ ?_ _ | with_reducible refine Below.setCell ?_ ?_ _ | with_reducible refine Below.drew ?_ | omega | (simp; omega) | (simp; done)))⟩
  case round =>
    obtain ⟨k, hk, rfl, hbr⟩ := hrel
    by_cases hlt : k < l.length
    · obtain ⟨b1, o1, rfl, hb1, he⟩ := hel k hlt
      obtain ⟨b2, o2, rfl, hb2, he2⟩ := hel2 k hlt
      obtain ⟨x, hx⟩ := at_of hlt
      rw [hx.out] at he he2
      obtain ⟨y0, _, v, y1, sv0⟩ := he
      obtain ⟨q0, _, u, q1, su0⟩ := he2
      have sv := Lib.hid sv0
      have su := Lib.hid su0
      obtain ⟨va, vcap, hva, _, _, _⟩ := sv0
      subst hva
      obtain ⟨ua, ucap, hva, _, _, _⟩ := su0
      subst hva
      have c0 := kept hbr.out hb1 y0
      have c1 := kept hbr.out hb1 y1
      have d0 := kept hbr.out hb2 q0
      have d1 := kept hbr.out hb2 q1
      have hI : (0 : Int) ≤ (k : Int) ∧ (k : Int) < l.length := ⟨by omega, by omega⟩
      obtain ⟨hI1, hI2⟩ := hI
      clear hel hel2 y0 y1 q0 q1
      go_wp2_with fail
      refine wp_region_held_drew (S := fun w' => w'.cell? ⟨b1, o1 + k * 2, none⟩ = some (.int .i64 x.sup) ∧ w'.cell? ⟨b1, o1 + k * 2 + 1, none⟩ = some (.slice va x.fields.length vcap) ∧ w'.cell? ⟨b2, o2 + k * 2, none⟩ = some (.int .i64 x.sup) ∧ w'.cell? ⟨b2, o2 + k * 2 + 1, none⟩ = some (.slice ua x.fields.length ucap)) (by kernel_rfl) (by (try dsimp only); exact ⟨c0, c1, d0, d1⟩) (fun hHeld => ?_)
      refine Drawn.tk 0 (some 17) rfl rfl (by assumption) ?_
      try simp only [Act.put, List.setIfInBounds_toArray, List.set_cons_zero, List.set_cons_succ]
      refine Drawn.tk 1 (some 18) rfl rfl (by assumption) ?_
      try simp only [Act.put, List.setIfInBounds_toArray, List.set_cons_zero, List.set_cons_succ]
      refine Drawn.tk 2 (some 19) rfl rfl (by assumption) ?_
      try simp only [Act.put, List.setIfInBounds_toArray, List.set_cons_zero, List.set_cons_succ]
      refine Drawn.tk 3 (some 20) rfl rfl (by assumption) ?_
      try simp only [Act.put, List.setIfInBounds_toArray, List.set_cons_zero, List.set_cons_succ]
      refine Drawn.tk 4 (some 21) rfl rfl (by assumption) ?_
      try simp only [Act.put, List.setIfInBounds_toArray, List.set_cons_zero, List.set_cons_succ]
      refine Drawn.tk 5 (some 22) rfl rfl (by assumption) ?_
      try simp only [Act.put, List.setIfInBounds_toArray, List.set_cons_zero, List.set_cons_succ]
      refine Drawn.tk 6 (some 23) rfl rfl (by assumption) ?_
      try simp only [Act.put, List.setIfInBounds_toArray, List.set_cons_zero, List.set_cons_succ]
      refine Drawn.tk 7 (some 24) rfl rfl (by assumption) ?_
      try simp only [Act.put, List.setIfInBounds_toArray, List.set_cons_zero, List.set_cons_succ]
      refine Drawn.tk 8 (some 25) rfl rfl (by assumption) ?_
      try simp only [Act.put, List.setIfInBounds_toArray, List.set_cons_zero, List.set_cons_succ]
      refine Drawn.tk 9 (some 26) rfl rfl (by assumption) ?_
      try simp only [Act.put, List.setIfInBounds_toArray, List.set_cons_zero, List.set_cons_succ]
      refine Drawn.tk 10 (some 27) rfl rfl (by assumption) ?_
      try simp only [Act.put, List.setIfInBounds_toArray, List.set_cons_zero, List.set_cons_succ]
      refine Drawn.tk 11 (some 28) rfl rfl (by assumption) ?_
      try simp only [Act.put, List.setIfInBounds_toArray, List.set_cons_zero, List.set_cons_succ]
      refine Drawn.tk 12 (some 29) rfl rfl (by assumption) ?_
      try simp only [Act.put, List.setIfInBounds_toArray, List.set_cons_zero, List.set_cons_succ]
      refine Drawn.tk 13 (some 30) rfl rfl (by assumption) ?_
      try simp only [Act.put, List.setIfInBounds_toArray, List.set_cons_zero, List.set_cons_succ]
      refine Drawn.tk 14 (some 31) rfl rfl (by assumption) ?_
      try simp only [Act.put, List.setIfInBounds_toArray, List.set_cons_zero, List.set_cons_succ]
      refine Drawn.tk 15 (some 32) rfl rfl (by assumption) ?_
      try simp only [Act.put, List.setIfInBounds_toArray, List.set_cons_zero, List.set_cons_succ]
      refine Drawn.tk 16 (some 33) rfl rfl (by assumption) ?_
      try simp only [Act.put, List.setIfInBounds_toArray, List.set_cons_zero, List.set_cons_succ]
      refine Drawn.tk 17 (some 34) rfl rfl (by assumption) ?_
      try simp only [Act.put, List.setIfInBounds_toArray, List.set_cons_zero, List.set_cons_succ]
      refine Drawn.tk 18 (some 35) rfl rfl (by assumption) ?_
      try simp only [Act.put, List.setIfInBounds_toArray, List.set_cons_zero, List.set_cons_succ]
      refine Drawn.tk 19 (some 36) rfl rfl (by assumption) ?_
      try simp only [Act.put, List.setIfInBounds_toArray, List.set_cons_zero, List.set_cons_succ]
      refine Drawn.tk 20 (some 37) rfl rfl (by assumption) ?_
      try simp only [Act.put, List.setIfInBounds_toArray, List.set_cons_zero, List.set_cons_succ]
      refine Drawn.tk 21 (some 38) rfl rfl (by assumption) ?_
      try simp only [Act.put, List.setIfInBounds_toArray, List.set_cons_zero, List.set_cons_succ]
      refine wpAnyH_ready (rs := [22]) (by kernel_rfl) (by simp) ?_
      refine AllReadyH.cons rfl (fun K hK => ?_) AllReadyH.nil
      go_simp
      go_at_call 69
      refine (typesS _ _ x.fields _ (by first | exact sv.out.mono mTy hbr.out hbr.out.size | exact sv.out.mono mTy hbr.out.drew hbr.out.size) (by first | exact su.out.mono mTy hbr.out hbr.out.size | exact su.out.mono mTy hbr.out.drew hbr.out.size)).mono ?_
      rintro e v1 ⟨rfl, hb⟩
      replace hb : Below wr.heap.size wr v1 := by first | exact hb | exact ((Below.refl _ _).drew).trans hb
      have c0_v1 := kept hb (lt_cell' c0) c0
      have c1_v1 := kept hb (lt_cell' c1) c1
      have d0_v1 := kept hb (lt_cell' d0) d0
      have d1_v1 := kept hb (lt_cell' d1) d1
      have Hv1 := Lib.hid (hbr.out.trans (hb.mono hbr.out.size))
      clear hb
      go_simp
      refine hK.out _ _ (by (try dsimp only); exact ⟨c0_v1, c1_v1, d0_v1, d1_v1⟩) (fun hHeld => ?_)
      clear hK K
      try simp only [Act.put, List.setIfInBounds_toArray, List.set_cons_zero, List.set_cons_succ]
      refine Drawn.tk 23 (some 40) rfl rfl (by assumption) ?_
      try simp only [Act.put, List.setIfInBounds_toArray, List.set_cons_zero, List.set_cons_succ]
      refine Drawn.tk 24 (some 41) rfl rfl (by assumption) ?_
      try simp only [Act.put, List.setIfInBounds_toArray, List.set_cons_zero, List.set_cons_succ]
      refine wpAnyH_done (by kernel_rfl) ?_ _
      clear c0_v1 c1_v1 d0_v1 d1_v1
      go_wp2_with fail
      go_roundw
      case rel => exact ⟨k + 1, by omega, by go_num, Hv1⟩
      case measure => simp [intOf]; omega
    · have hge : ¬ (k : Int) < l.length := by omega
      clear hel hel2
      go_wp2
      go_ret
      exact ⟨ret_bool rfl, hbr.out⟩
theorem callsWs {P : Program} {fn : FuncId} {args : Array Value} {w : World} {post : Ending → World → Prop} (R : World → Prop) (hR : R w) (h : ∀ W, R W → Calls P fn args W post) : Calls P fn args w post := h w hR

set_option maxRecDepth 100000 in
set_option maxHeartbeats 8000000 in
theorem sameS (va vb : Value) (f : Fi) (w : World) (hf : VFi w w.heap.size va f) (hf2 : VFi w w.heap.size vb f) :
    Calls Try.prog 36 #[va, vb] w fun e w' => e = .returned (.bool true) ∧ Below w.heap.size w w' := by
  obtain ⟨vc, vm, rfl, s1, s2⟩ := hf
  obtain ⟨uc, um, rfl, t1, t2⟩ := hf2
  have S1 := Lib.hid s1; have S2 := Lib.hid s2; have T1 := Lib.hid t1; have T2 := Lib.hid t2
  obtain ⟨ca, ccap, hva, _, _, _⟩ := s1
  subst hva
  obtain ⟨ma, mcap, hva, hm1, hm2, _⟩ := s2
  subst hva
  obtain ⟨da, dcap, hva, _, _, _⟩ := t1
  subst hva
  obtain ⟨na, ncap, hva, hn1, hn2, _⟩ := t2
  subst hva
  go_enter Try.func36, Try.ntmps36
  go_wp2_with fail
  refine (classesS _ _ f.classes _ (S1.out.mono mCls (by repeat' (first | with_reducible exact Below.refl _ _ | with_reducible assumption | exact Nat.le_refl _ | with_reducible refine Go.Proofs.Ytncmhenfgbcihaa.Rd.below_drewN ?_ _ | with_reducible refine Below.alloc ?_ ?_ _ | with_reducible refine Below.setCell ?_ ?_ _ | with_reducible refine Below.drew ?_ | omega | (simp; omega) | (simp; done))) (by simp <;> omega)) (T1.out.mono mCls (by repeat' (first | with_reducible exact Below.refl _ _ | with_reducible assumption | exact Nat.le_refl _ | with_reducible refine Go.Proofs.Ytncmhenfgbcihaa.Rd.below_drewN ?_ _ | with_reducible refine Below.alloc ?_ ?_ _ | with_reducible refine Below.setCell ?_ ?_ _ | with_reducible refine Below.drew ?_ | omega | (simp; omega) | (simp; done))) (by simp <;> omega))).mono ?_
  rintro e w1 ⟨rfl, hb1⟩
  have y1 : w1.cell? ⟨w.heap.size, 1, none⟩ = some (.slice ma f.methods.length mcap) := kept hb1 (by simp <;> omega) (by go_simp)
  have q1 : w1.cell? ⟨w.heap.size + 1, 1, none⟩ = some (.slice na f.methods.length ncap) := kept hb1 (by simp <;> omega) (by go_simp)
  have hw1 : Below w.heap.size w w1 := Below.trans (by repeat' (first | with_reducible exact Below.refl _ _ | with_reducible assumption | exact Nat.le_refl _ | with_reducible refine Go.Proofs.Ytncmhenfgbcihaa.Rd.below_drewN ?_ _ | with_reducible refine Below.alloc ?_ ?_ _ | with_reducible refine Below.setCell ?_ ?_ _ | with_reducible refine Below.drew ?_ | omega | (simp; omega) | (simp; done))) (hb1.mono (by simp <;> omega))
  have HW1 := Lib.hid hw1
  clear hb1 hw1
  go_wp2_with fail
  go_loopw [5] (fun i wr => ∃ k : Nat, k ≤ f.methods.length ∧ i = .int .i64 k ∧ Hid (Below w.heap.size w wr) ∧ wr.cell? ⟨w.heap.size, 1, none⟩ = some (.slice ma f.methods.length mcap) ∧ wr.cell? ⟨w.heap.size + 1, 1, none⟩ = some (.slice na f.methods.length ncap)) (fun i _ => f.methods.length - (intOf i).toNat)
  case atStart => exact ⟨0, by omega, rfl, HW1, y1, q1⟩
  case round =>
  obtain ⟨k, hk, rfl, hb, z1, x1⟩ := hrel
  clear y1 q1
  by_cases hlt : k < f.methods.length
  · obtain ⟨a, cap', ha, _, _, hel⟩ := S2.out
    simp only [Value.slice.injEq] at ha
    obtain ⟨rfl, _, rfl⟩ := ha
    obtain ⟨a, cap', ha, _, _, hel2⟩ := T2.out
    simp only [Value.slice.injEq] at ha
    obtain ⟨rfl, _, rfl⟩ := ha
    obtain ⟨b1, o1, rfl, hb1, he⟩ := hel k hlt
    obtain ⟨b2, o2, rfl, hb2, he2⟩ := hel2 k hlt
    obtain ⟨x, hx⟩ := at_of hlt
    rw [hx.out] at he he2
    obtain ⟨vpa, vca, vha, y0, y1, y2, y3, y4, y5, y6, y7, _, sa1, sa2, sa3⟩ := he
    obtain ⟨vpb, vcb, vhb, q0, q1, q2, q3, q4, q5, q6, q7, _, sb1, sb2, sb3⟩ := he2
    have c0 := kept hb.out hb1 y0
    have d0 := kept hb.out hb2 q0
    have c1 := kept hb.out hb1 y1
    have d1 := kept hb.out hb2 q1
    have c2 := kept hb.out hb1 y2
    have d2 := kept hb.out hb2 q2
    have c3 := kept hb.out hb1 y3
    have d3 := kept hb.out hb2 q3
    have c4 := kept hb.out hb1 y4
    have d4 := kept hb.out hb2 q4
    have c5 := kept hb.out hb1 y5
    have d5 := kept hb.out hb2 q5
    have c6 := kept hb.out hb1 y6
    have d6 := kept hb.out hb2 q6
    have c7 := kept hb.out hb1 y7
    have d7 := kept hb.out hb2 q7
    have p1 := Lib.hid sa1; have p2 := Lib.hid sa2; have p3 := Lib.hid sa3; have r1 := Lib.hid sb1; have r2 := Lib.hid sb2; have r3 := Lib.hid sb3
    obtain ⟨pa, pcap, hva, _, _, _⟩ := sa1
    subst hva
    obtain ⟨ia, icap, hva, hi1, hi2, _⟩ := sa2
    subst hva
    obtain ⟨ha, hcap, hva, hh1, hh2, _⟩ := sa3
    subst hva
    obtain ⟨pb, pcap2, hva, _, _, _⟩ := sb1
    subst hva
    obtain ⟨ib, icap2, hva, hj1, hj2, _⟩ := sb2
    subst hva
    obtain ⟨hb', hcap2, hva, hk1, hk2, _⟩ := sb3
    subst hva
    have hI : (k : Int) < f.methods.length := by omega
    have hlx := lt_cell' x1
    have hld : ∀ (i : Nat), b2 < wr.heap.size := fun _ => lt_cell' d0
    have hld' := hld 0
    clear hel hel2 hld y0 q0 y1 q1 y2 q2 y3 q3 y4 q4 y5 q5 y6 q6 y7 q7
    go_wp2_with fail
    refine callsWs (fun W' => Hid (Below w.heap.size w W') ∧ wr.heap.size + 1 < W'.heap.size ∧ W'.cell? ⟨w.heap.size, 1, none⟩ = some (.slice (some ⟨b1, o1, none⟩) f.methods.length mcap) ∧ W'.cell? ⟨w.heap.size + 1, 1, none⟩ = some (.slice (some ⟨b2, o2, none⟩) f.methods.length ncap) ∧ (W'.cell? ⟨wr.heap.size, 0, none⟩ = some (.slice pa x.params.length pcap) ∧ W'.cell? ⟨wr.heap.size, 1, none⟩ = some (.int .i64 x.ret.kind) ∧ W'.cell? ⟨wr.heap.size, 2, none⟩ = some (.int .i64 x.ret.cls) ∧ W'.cell? ⟨wr.heap.size, 3, none⟩ = some (.int .i64 x.stack) ∧ W'.cell? ⟨wr.heap.size, 4, none⟩ = some (.int .i64 x.locals) ∧ W'.cell? ⟨wr.heap.size, 5, none⟩ = some (.int .i64 x.regs) ∧ W'.cell? ⟨wr.heap.size, 6, none⟩ = some (.slice ia x.code.length icap) ∧ W'.cell? ⟨wr.heap.size, 7, none⟩ = some (.slice ha x.handlers.length hcap)) ∧ (W'.cell? ⟨wr.heap.size + 1, 0, none⟩ = some (.slice pb x.params.length pcap2) ∧ W'.cell? ⟨wr.heap.size + 1, 1, none⟩ = some (.int .i64 x.ret.kind) ∧ W'.cell? ⟨wr.heap.size + 1, 2, none⟩ = some (.int .i64 x.ret.cls) ∧ W'.cell? ⟨wr.heap.size + 1, 3, none⟩ = some (.int .i64 x.stack) ∧ W'.cell? ⟨wr.heap.size + 1, 4, none⟩ = some (.int .i64 x.locals) ∧ W'.cell? ⟨wr.heap.size + 1, 5, none⟩ = some (.int .i64 x.regs) ∧ W'.cell? ⟨wr.heap.size + 1, 6, none⟩ = some (.slice ib x.code.length icap2) ∧ W'.cell? ⟨wr.heap.size + 1, 7, none⟩ = some (.slice hb' x.handlers.length hcap2))) ?_ ?_
    · exact ⟨Lib.hid ((hb.out.alloc hb.out.size _).alloc (by have := hb.out.size; simp; omega) _), by simp, allocKs (allocKs z1 _) _, allocKs (allocKs x1 _) _, ⟨by go_simp, by go_simp, by go_simp, by go_simp, by go_simp, by go_simp, by go_simp, by go_simp⟩, ⟨by go_simp, by go_simp, by go_simp, by go_simp, by go_simp, by go_simp, by go_simp, by go_simp⟩⟩
    rintro wn ⟨hbn, hnl, z1', x1', ⟨e0, e1, e2, e3, e4, e5, e6, e7⟩, ⟨g0, g1, g2, g3, g4, g5, g6, g7⟩⟩
    generalize hnm : wr.heap.size = nm at *
    clear z1 x1 c0 d0 c1 d1 c2 d2 c3 d3 c4 d4 c5 d5 c6 d6 c7 d7 hnm
    refine (typesS _ _ x.params _ (p1.out.mono mTy hbn.out hbn.out.size) (r1.out.mono mTy hbn.out hbn.out.size)).mono ?_
    rintro e w2 ⟨rfl, hb3⟩
    have HB3 := Lib.hid (hbn.out.trans (hb3.mono hbn.out.size))
    replace z1' := kept hb3 (lt_cell' z1') z1'
    replace x1' := kept hb3 (lt_cell' x1') x1'
    replace e1 := kept hb3 (lt_cell' e1) e1
    replace e2 := kept hb3 (lt_cell' e2) e2
    replace e3 := kept hb3 (lt_cell' e3) e3
    replace e4 := kept hb3 (lt_cell' e4) e4
    replace e5 := kept hb3 (lt_cell' e5) e5
    replace e6 := kept hb3 (lt_cell' e6) e6
    replace e7 := kept hb3 (lt_cell' e7) e7
    replace g1 := kept hb3 (lt_cell' g1) g1
    replace g2 := kept hb3 (lt_cell' g2) g2
    replace g3 := kept hb3 (lt_cell' g3) g3
    replace g4 := kept hb3 (lt_cell' g4) g4
    replace g5 := kept hb3 (lt_cell' g5) g5
    replace g6 := kept hb3 (lt_cell' g6) g6
    replace g7 := kept hb3 (lt_cell' g7) g7
    clear hb3 e0 g0
    go_wp2_with fail
    clear e1 e2 e3 e4 e5 g1 g2 g3 g4 g5
    go_loopw [8] (fun i wr => ∃ j : Nat, j ≤ x.code.length ∧ i = .int .i64 j ∧ Hid (Below w.heap.size w wr) ∧ wr.cell? ⟨w.heap.size, 1, none⟩ = some (.slice (some ⟨b1, o1, none⟩) f.methods.length mcap) ∧ wr.cell? ⟨w.heap.size + 1, 1, none⟩ = some (.slice (some ⟨b2, o2, none⟩) f.methods.length ncap) ∧ wr.cell? ⟨nm, 6, none⟩ = some (.slice ia x.code.length icap) ∧ wr.cell? ⟨nm, 7, none⟩ = some (.slice ha x.handlers.length hcap) ∧ wr.cell? ⟨nm + 1, 6, none⟩ = some (.slice ib x.code.length icap2) ∧ wr.cell? ⟨nm + 1, 7, none⟩ = some (.slice hb' x.handlers.length hcap2)) (fun i _ => x.code.length - (intOf i).toNat)
    case atStart => exact ⟨0, by omega, rfl, HB3, z1', x1', e6, e7, g6, g7⟩
    case round =>
    obtain ⟨j, hj, rfl, hbi, z1, x1, c6, c7, d6, d7⟩ := hrel
    clear z1' x1' e6 e7 g6 g7
    by_cases hltj : j < x.code.length
    · obtain ⟨a, cap', ha', _, _, hel⟩ := p2.out
      simp only [Value.slice.injEq] at ha'
      obtain ⟨rfl, _, rfl⟩ := ha'
      obtain ⟨a, cap', ha', _, _, hel2⟩ := r2.out
      simp only [Value.slice.injEq] at ha'
      obtain ⟨rfl, _, rfl⟩ := ha'
      obtain ⟨b3, o3, rfl, hb3, he⟩ := hel j hltj
      obtain ⟨b4, o4, rfl, hb4, he2⟩ := hel2 j hltj
      obtain ⟨x2, hx2⟩ := at_of hltj
      rw [hx2.out] at he he2
      obtain ⟨y0, y1, y2, y3, y4, _, vv, y5, sv0⟩ := he
      obtain ⟨q0, q1, q2, q3, q4, _, uv, q5, su0⟩ := he2
      have f0 := kept hbi.out hb3 y0
      have h0 := kept hbi.out hb4 q0
      have f1 := kept hbi.out hb3 y1
      have h1 := kept hbi.out hb4 q1
      have f2 := kept hbi.out hb3 y2
      have h2 := kept hbi.out hb4 q2
      have f3 := kept hbi.out hb3 y3
      have h3 := kept hbi.out hb4 q3
      have f4 := kept hbi.out hb3 y4
      have h4 := kept hbi.out hb4 q4
      have f5 := kept hbi.out hb3 y5
      have h5 := kept hbi.out hb4 q5
      have sv := Lib.hid sv0; have su := Lib.hid su0
      obtain ⟨aa, acap, hva, _, _, _⟩ := sv0
      subst hva
      obtain ⟨ab, acap2, hva, _, _, _⟩ := su0
      subst hva
      have hIj : (j : Int) < x.code.length := by omega
      clear hel hel2 y0 y1 y2 y3 y4 y5 q0 q1 q2 q3 q4 q5
      have hl6 := lt_cell' d6
      have hl7 := lt_cell' h0
      go_wp2_with fail
      refine callsWs (fun W' => Hid (Below w.heap.size w W') ∧ W'.cell? ⟨w.heap.size, 1, none⟩ = some (.slice (some ⟨b1, o1, none⟩) f.methods.length mcap) ∧ W'.cell? ⟨w.heap.size + 1, 1, none⟩ = some (.slice (some ⟨b2, o2, none⟩) f.methods.length ncap) ∧ W'.cell? ⟨nm, 6, none⟩ = some (.slice (some ⟨b3, o3, none⟩) x.code.length icap) ∧ W'.cell? ⟨nm, 7, none⟩ = some (.slice ha x.handlers.length hcap) ∧ W'.cell? ⟨nm + 1, 6, none⟩ = some (.slice (some ⟨b4, o4, none⟩) x.code.length icap2) ∧ W'.cell? ⟨nm + 1, 7, none⟩ = some (.slice hb' x.handlers.length hcap2)) ?_ ?_
      · exact ⟨Lib.hid ((hbi.out.alloc hbi.out.size _).alloc (by have := hbi.out.size; simp; omega) _), allocKs (allocKs z1 _) _, allocKs (allocKs x1 _) _, allocKs (allocKs c6 _) _, allocKs (allocKs c7 _) _, allocKs (allocKs d6 _) _, allocKs (allocKs d7 _) _⟩
      rintro wi ⟨hbj, z1', x1', e6, e7, g6, g7⟩
      clear z1 x1 c6 c7 d6 d7 hl6 hl7 f0 h0 f1 h1 f2 h2 f3 h3 f4 h4 f5 h5
      refine (intsS _ _ x2.args _ (sv.out.mono mInt hbj.out hbj.out.size) (su.out.mono mInt hbj.out hbj.out.size)).mono ?_
      rintro e w3 ⟨rfl, hb5⟩
      have HB5 := Lib.hid (hbj.out.trans (hb5.mono hbj.out.size))
      replace z1' := kept hb5 (lt_cell' z1') z1'
      replace x1' := kept hb5 (lt_cell' x1') x1'
      replace e6 := kept hb5 (lt_cell' e6) e6
      replace e7 := kept hb5 (lt_cell' e7) e7
      replace g6 := kept hb5 (lt_cell' g6) g6
      replace g7 := kept hb5 (lt_cell' g7) g7
      clear hb5
      go_wp2_with fail
      go_roundw
      case rel => exact ⟨j + 1, by omega, by go_num, HB5, z1', x1', e6, e7, g6, g7⟩
      case measure => simp [intOf]; omega
    · have hgej : ¬ (j : Int) < x.code.length := by omega
      go_wp2_with fail
      go_loopw [11] (fun i wr => ∃ i2 : Nat, i2 ≤ x.handlers.length ∧ i = .int .i64 i2 ∧ Hid (Below w.heap.size w wr) ∧ wr.cell? ⟨w.heap.size, 1, none⟩ = some (.slice (some ⟨b1, o1, none⟩) f.methods.length mcap) ∧ wr.cell? ⟨w.heap.size + 1, 1, none⟩ = some (.slice (some ⟨b2, o2, none⟩) f.methods.length ncap) ∧ wr.cell? ⟨nm, 7, none⟩ = some (.slice ha x.handlers.length hcap) ∧ wr.cell? ⟨nm + 1, 7, none⟩ = some (.slice hb' x.handlers.length hcap2)) (fun i _ => x.handlers.length - (intOf i).toNat)
      case atStart => exact ⟨0, by omega, rfl, hbi, z1, x1, c7, d7⟩
      case round =>
      obtain ⟨i2, hi2', rfl, hbh, z1', x1', e7, g7⟩ := hrel
      clear z1 x1 c6 c7 d6 d7
      by_cases hlti : i2 < x.handlers.length
      · obtain ⟨a, cap', ha', _, _, hel⟩ := p3.out
        simp only [Value.slice.injEq] at ha'
        obtain ⟨rfl, _, rfl⟩ := ha'
        obtain ⟨a, cap', ha', _, _, hel2⟩ := r3.out
        simp only [Value.slice.injEq] at ha'
        obtain ⟨rfl, _, rfl⟩ := ha'
        obtain ⟨b3, o3, rfl, hb3, he⟩ := hel i2 hlti
        obtain ⟨b4, o4, rfl, hb4, he2⟩ := hel2 i2 hlti
        obtain ⟨x2, hx2⟩ := at_of hlti
        rw [hx2.out] at he he2
        obtain ⟨y0, y1, y2, y3, _⟩ := he
        obtain ⟨q0, q1, q2, q3, _⟩ := he2
        have f0 := kept hbh.out hb3 y0
        have h0 := kept hbh.out hb4 q0
        have f1 := kept hbh.out hb3 y1
        have h1 := kept hbh.out hb4 q1
        have f2 := kept hbh.out hb3 y2
        have h2 := kept hbh.out hb4 q2
        have f3 := kept hbh.out hb3 y3
        have h3 := kept hbh.out hb4 q3
        have hI1 : (0 : Int) ≤ (i2 : Int) := by omega
        have hIi : (i2 : Int) < x.handlers.length := by omega
        clear hel hel2 y0 y1 y2 y3 q0 q1 q2 q3
        go_wp2_with fail
        go_quiet (fail)
        go_wp2_with fail
        go_roundw
        case rel => exact ⟨i2 + 1, by omega, by go_num, below_drewN hbh.out _, z1', x1', e7, g7⟩
        case measure => simp [intOf]; omega
      · have hgei : ¬ (i2 : Int) < x.handlers.length := by omega
        go_wp2_with fail
        go_roundw
        case rel => exact ⟨k + 1, by omega, by go_num, hbh, z1', x1'⟩
        case measure => simp [intOf]; omega
  · have hge : ¬ (k : Int) < f.methods.length := by omega
    go_wp2_with fail
    go_ret
    exact ⟨ret_bool rfl, hb.out⟩
end Wire
end Go.Proofs.Ytncmhenfgbcihaa

/- The walk through the law WireGets: both readers read the same. -/
namespace Go.Proofs.Ytncmhenfgbcihaa
open Go.RowKit
set_option linter.unusedSimpArgs false
set_option linter.unusedVariables false
namespace Wire
open Num Rd D Bytes HierW FormW FormR

set_option maxRecDepth 100000 in
set_option maxHeartbeats 4000000 in
theorem wireGets (bs : List UInt8) (vb : Value) (w : World) (h : Sl 1 EByte w w.heap.size vb bs) (hlen : bs.length ≤ 4000000) :
    Calls Try.prog 12 #[vb] w fun e w' => e = .returned (.bool true) ∧ Below w.heap.size w w' := by
  have hS := Lib.hid h
  obtain ⟨a, cap, rfl, _, _, _⟩ := h
  go_enter Try.func12, Try.ntmps12
  go_wp2_with fail
  refine (get bs _ _ (hS.out.mono mByte (by repeat' (first | with_reducible exact Below.refl _ _ | with_reducible assumption | exact Nat.le_refl _ | with_reducible refine Go.Proofs.Ytncmhenfgbcihaa.Rd.below_drewN ?_ _ | with_reducible refine Below.alloc ?_ ?_ _ | with_reducible refine Below.setCell ?_ ?_ _ | with_reducible refine Below.drew ?_ | omega | (simp; omega) | (simp; done))) (by simp)) hlen).mono ?_
  rintro e w1 ⟨⟨v, rfl, hv⟩, hb1⟩
  have hw1 : Below w.heap.size w w1 := Below.trans (by repeat' (first | with_reducible exact Below.refl _ _ | with_reducible assumption | exact Nat.le_refl _ | with_reducible refine Go.Proofs.Ytncmhenfgbcihaa.Rd.below_drewN ?_ _ | with_reducible refine Below.alloc ?_ ?_ _ | with_reducible refine Below.setCell ?_ ?_ _ | with_reducible refine Below.drew ?_ | omega | (simp; omega) | (simp; done))) (hb1.mono (by simp))
  obtain ⟨r, HR⟩ : ∃ r, Hid (getS bs = r) := ⟨_, rfl⟩
  rw [HR.out] at hv ⊢
  obtain ⟨⟨cl, ml⟩, HF⟩ : ∃ f, Hid (r.getD ⟨[], []⟩ = f) := ⟨_, rfl⟩
  rw [HF.out] at hv
  obtain ⟨c, HC⟩ : ∃ c : Int, Hid ((if r.isSome = true then (0 : Int) else 2) = c) := ⟨_, rfl⟩
  have HC2 : Hid ((if r.isSome = true then (0 : Int) else 2) = c) := HC
  have hV := Lib.hid hv
  obtain ⟨vc, vm, rfl, ⟨ca, ccap, rfl, _⟩, ⟨ma, mcap, rfl, _⟩⟩ := hv
  have HW1 := Lib.hid hw1
  rw [HC.out]
  clear hb1 hw1
  go_wp2_with fail
  have hs1 := HW1.out.size
  refine (getR bs _ _ (hS.out.mono mByte (by have h1 := HW1.out; exact (by repeat' (first | with_reducible exact Below.refl _ _ | with_reducible assumption | exact Nat.le_refl _ | with_reducible refine Go.Proofs.Ytncmhenfgbcihaa.Rd.below_drewN ?_ _ | with_reducible refine Below.alloc ?_ ?_ _ | with_reducible refine Below.setCell ?_ ?_ _ | with_reducible refine Below.drew ?_ | omega | (simp; omega) | (simp; done)))) (by simp <;> omega)) hlen).mono ?_
  rintro e w2 ⟨⟨v2, rfl, hv2⟩, hb2⟩
  rw [HR.out, HF.out] at hv2
  rw [HR.out]
  rw [HC.out]
  have hw2 : Below w.heap.size w w2 := Below.trans (by have h1 := HW1.out; exact (by repeat' (first | with_reducible exact Below.refl _ _ | with_reducible assumption | exact Nat.le_refl _ | with_reducible refine Go.Proofs.Ytncmhenfgbcihaa.Rd.below_drewN ?_ _ | with_reducible refine Below.alloc ?_ ?_ _ | with_reducible refine Below.setCell ?_ ?_ _ | with_reducible refine Below.drew ?_ | omega | (simp; omega) | (simp; done)))) (hb2.mono (by simp <;> omega))
  have y0 : w2.cell? ⟨w1.heap.size, 0, none⟩ = some (.slice ca cl.length ccap) := kept hb2 (by simp <;> omega) (by go_simp)
  have y1 : w2.cell? ⟨w1.heap.size, 1, none⟩ = some (.slice ma ml.length mcap) := kept hb2 (by simp <;> omega) (by go_simp)
  have hV1 : VFi w2 w2.heap.size (.agg #[.slice ca cl.length ccap, .slice ma ml.length mcap]) ⟨cl, ml⟩ := (hV.out.mono (B' := w2.heap.size) (Below.trans (by repeat' (first | with_reducible exact Below.refl _ _ | with_reducible assumption | exact Nat.le_refl _ | with_reducible refine Go.Proofs.Ytncmhenfgbcihaa.Rd.below_drewN ?_ _ | with_reducible refine Below.alloc ?_ ?_ _ | with_reducible refine Below.setCell ?_ ?_ _ | with_reducible refine Below.drew ?_ | omega | (simp; omega) | (simp; done))) (hb2.mono (by simp <;> omega))) (by have := hb2.size; simp at this; omega))
  have HV1 := Lib.hid hV1
  have hV2 := Lib.hid hv2
  obtain ⟨vc2, vm2, rfl, ⟨ca2, ccap2, rfl, _⟩, ⟨ma2, mcap2, rfl, _⟩⟩ := hv2
  have HW2 := Lib.hid hw2
  have hs2 : w1.heap.size < w2.heap.size := by have := hb2.size; simp at this; omega
  clear hb2 hw2 hV1
  go_wp2_with fail
  refine (sameS _ _ ⟨cl, ml⟩ _ (HV1.out.mono (by have h1 := Below.refl w2.heap.size w2; exact (by repeat' (first | with_reducible exact Below.refl _ _ | with_reducible assumption | exact Nat.le_refl _ | with_reducible refine Go.Proofs.Ytncmhenfgbcihaa.Rd.below_drewN ?_ _ | with_reducible refine Below.alloc ?_ ?_ _ | with_reducible refine Below.setCell ?_ ?_ _ | with_reducible refine Below.drew ?_ | omega | (simp; omega) | (simp; done)))) (by simp <;> omega)) (hV2.out.mono (by have h1 := Below.refl w2.heap.size w2; exact (by repeat' (first | with_reducible exact Below.refl _ _ | with_reducible assumption | exact Nat.le_refl _ | with_reducible refine Go.Proofs.Ytncmhenfgbcihaa.Rd.below_drewN ?_ _ | with_reducible refine Below.alloc ?_ ?_ _ | with_reducible refine Below.setCell ?_ ?_ _ | with_reducible refine Below.drew ?_ | omega | (simp; omega) | (simp; done)))) (by simp <;> omega))).mono ?_
  rintro e w3 ⟨rfl, hb3⟩
  have hw3 : Below w.heap.size w w3 := Below.trans (by have h1 := HW2.out; exact (by repeat' (first | with_reducible exact Below.refl _ _ | with_reducible assumption | exact Nat.le_refl _ | with_reducible refine Go.Proofs.Ytncmhenfgbcihaa.Rd.below_drewN ?_ _ | with_reducible refine Below.alloc ?_ ?_ _ | with_reducible refine Below.setCell ?_ ?_ _ | with_reducible refine Below.drew ?_ | omega | (simp; omega) | (simp; done)))) (hb3.mono (by have := HW2.out.size; simp <;> omega))
  have HW3 := Lib.hid hw3
  clear hb3 hw3
  go_wp2_with fail
  go_ret
  exact ⟨ret_bool rfl, HW3.out⟩
end Wire
end Go.Proofs.Ytncmhenfgbcihaa

/- The statement WireGetsUptoSaid, out of its walk. -/
namespace Go.Proofs.Ytncmhenfgbcihaa.wireGetsP
open Go.ChangeShapes Go.WideShapes Go.ChangeAt Go.RowKit
open Num Rd
set_option linter.unusedVariables false

theorem own : ownKnob Try.prog.godebug = none := by kernel_rfl
theorem laidOut : laidOutB Try.prog = true := by kernel_rfl

theorem len_le {H : Type} (l : List (DataW H)) : l.length ≤ Rows.uptoBulkAll l := by
  induction l with
  | nil => simp
  | cons d r ih =>
    simp only [Rows.uptoBulkAll, List.length_cons]
    have : 1 ≤ Rows.uptoBulk d := by
      cases d with
      | lit l => cases l <;> simp [Rows.uptoBulk]
      | nil => simp [Rows.uptoBulk]
      | ptr d => simp [Rows.uptoBulk]
      | slice elems spare => simp [Rows.uptoBulk]
      | agg parts => simp [Rows.uptoBulk]
      | iface t d => simp [Rows.uptoBulk]
      | map entries => simp [Rows.uptoBulk]
      | held h => simp [Rows.uptoBulk]
    omega
theorem cells_u8 : Try.prog.cellsOf 5 = 1 := by kernel_rfl
set_option maxRecDepth 100000 in
theorem open_bytes {H : Type} {enc : TypeId × Value → H} {w : World} {sp : Nat → Bool} {held : Bool} {r : Reach} {b0 : Nat} {v : Value} {d : DataW H} {ps : List MemPlace} (hval : Value.okWide Try.prog w r b0 50 v) (hd : DataW.Trod enc Try.prog w 0 sp held 50 v d ps) : ∃ bs : List UInt8, Sl 1 Wire.EByte w w.heap.size v bs ∧ bs.length ≤ Rows.uptoBulk d := by
  obtain ⟨a, n, c, rfl⟩ := okWide_slice Try.underlying50 hval
  obtain ⟨fuel, hf⟩ := hd
  obtain ⟨v, l, hv, hs⟩ := Sl.of_trod (E := Wire.EByte) Try.underlying50 cells_u8 (by omega) (fun fuel b o cs x hb hc hl h => by
    obtain ⟨c0, rfl⟩ := len1 hl
    obtain ⟨k, hk, _, hw⟩ := DataW.trod_int Try.underlying5 h
    have hk' : c0 = .int .u8 k := by simpa using hk
    subst hk'
    have hb : 0 ≤ k ∧ k < 256 := by simp [Lit.wf, IntKind.min, IntKind.max, IntKind.signed, IntKind.bits] at hw; omega
    exact ⟨UInt8.ofNat k.toNat, by
      have := hc 0 (by omega)
      unfold Wire.EByte
      rw [UInt8.toNat_ofNat_of_lt' (by show _ < 256; omega), Int.toNat_of_nonneg hb.1]
      simpa using this⟩) hf
  simp only [Value.cells, List.cons.injEq, and_true] at hv
  subst hv
  refine ⟨l, hs, ?_⟩
  obtain ⟨a', cap', he, _⟩ := hs
  rcases DataW.trod_slice Try.underlying50 hf with ⟨h1, h2⟩ | ⟨a2, len, cap, elems, rest, m, _, h1, h2, _, _, _, hlen, _⟩
  · simp only [Value.cells, List.cons.injEq, and_true] at h1
    rw [h1] at he
    simp only [Value.slice.injEq] at he
    omega
  · simp only [Value.cells, List.cons.injEq, and_true] at h1
    rw [h1] at he
    simp only [Value.slice.injEq] at he
    simp only [Prod.mk.injEq] at h2
    rw [h2.1]
    have := len_le (List.map (fun x => x.fst) elems)
    simp only [Rows.uptoBulk, List.length_map] at this ⊢
    omega

section
variable {H : Type} {enc : TypeId × Value → H} {P : Program}
theorem post_below {f : Func} {s : ChangeSpec} {apart fresh handsOn again : Bool} {W W' : World} {args : Array Value} {v : Value} {ds gs : List (DataW H)} {before pa pv : List MemPlace}
    (hW : DataW.Whole enc P f.params.toList s.vars apart W args.toList ds gs before)
    (hres : ∀ (b : Nat) (sp : Nat → Bool) (hd : Bool), DataW.TrodAll enc P W' b sp hd f.resultTypes.toList (v.resultList f.resultTypes.size) (s.fn H (ds ++ gs)).results [])
    (hargs : ∀ sp : Nat → Bool, (∀ p ∈ before, sp p.block = true) → DataW.TrodAll enc P W' 0 sp true f.params.toList args.toList (s.fn H (ds ++ gs)).args pa)
    (hvars : ∀ sp : Nat → Bool, (∀ p ∈ before, sp p.block = true) → DataW.TrodVars enc P W' sp s.vars (s.fn H (ds ++ gs)).vars pv)
    (hps : before = pa ++ pv) (hb : Below W.heap.size W W')
    (hok : ∀ (j : Nat) (t : TypeId) (r : Value), f.resultTypes[j]? = some t → (v.resultList f.resultTypes.size)[j]? = some r → Value.okWide P W' .any 0 t r) :
    s.post enc P f apart fresh handsOn again W args v W' := by
  have hlt : ∀ p ∈ before, p.block < W.heap.size := fun p hp => hW.lt p hp
  have hold : ∀ p ∈ before, (fun b => decide (b < W.heap.size)) p.block = true := fun p hp => by simpa using hlt p hp
  refine ⟨ds, gs, before, [], pa, pv, hW, hres _ _ _, hargs _ hold, hvars _ hold, World.keptBut_mono (fun p hp => ⟨hp, ?_⟩) (hb.frame (· ∈ before)), fun _ => ?_⟩
  · rw [hps, List.mem_append] at hp
    exact Or.inr hp
  · obtain ⟨_, _, _, _, _, hz, hn⟩ := hW
    refine ⟨hok, _, _, ([] ++ pa) ++ pv, ⟨[] ++ pa, pv, trodAll_append (hargs _ (fun _ _ => rfl)) (hres _ _ _), hvars _ (fun _ _ => rfl), rfl, ?_, ?_⟩, ?_⟩
    · intro b off hp
      have hin : MemPlace.cell b off ∈ before := by rw [hps]; simpa using hp
      rw [hb.frozen (hlt _ hin)]
      exact hz b off hin
    · intro ha
      have := hn ha
      rw [hps] at this
      simpa using this
    · rw [hps]; simp
      exact fun p hp _ => hp
end

set_option maxRecDepth 100000 in
theorem lifted (os : Os) (started : os.Started) (H : Type) (enc : TypeId × Value → H) (F : Stop.Interp) :
    ReturnsInHanded {} Try.checked os 12 .any ((Rows.OpenSpec.upto Rows.wireGetsSpec).pre6 enc Try.prog Try.f12 Rows.wireGetsUptoRow.domain false) (((Rows.OpenSpec.upto Rows.wireGetsSpec).at F).post enc Try.prog Try.f12 false true false false) := by
  refine returnsInHanded_of_cond (C := Try.checked) (s := Rows.OpenSpec.upto Rows.wireGetsSpec) (k := Rows.uptoSmall) rfl own started (by kernel_rfl) Try.func12
    (OpenSpec.witness (enc := enc) (C := Try.checked) (s := Rows.OpenSpec.upto Rows.wireGetsSpec) (k := Rows.uptoSmall) rfl false ⟨#[], #[.slice none 0 0], []⟩ 8 (by kernel_rfl) (by kernel_rfl) (by kernel_rfl)
      (x := ([.nil], [], [])) (by kernel_rfl) rfl (by kernel_rfl)) ?_
  intro W base args ds gs before hval0 hW _ hk _
  have hval : ∀ (j : Nat) t v, Try.f12.params[j]? = some t → args[j]? = some v → Value.okWide Try.prog W .any base t v := hval0
  have hW' := hW
  have hlt := hW.lt
  obtain ⟨p, q, hA0, hV, rfl, hfz, hnd⟩ := hW
  have hA : DataW.TrodAll enc Try.prog W 0 (fun _ => true) true Try.f12.params.toList args.toList ds p := hA0
  rw [Try.params12] at hA hval
  obtain ⟨v0, vs0, d0, ds0, p0, q0, hargs, rfl, rfl, h0, r0⟩ := trodAll_cons hA
  obtain ⟨rfl, rfl, rfl⟩ := trodAll_nil r0
  obtain rfl : args = #[v0] := by cases args; simp_all
  obtain ⟨rfl, rfl⟩ := trodVars_none hV
  obtain ⟨l0, w0, b0⟩ := open_bytes (hval 0 50 v0 rfl rfl) h0
  clear hA0 hval0
  simp only [List.append_nil] at hW' hlt hk
  have hB : Rows.uptoBulkAll _ ≤ 1048576 := of_decide_eq_true hk
  simp only [Rows.uptoBulkAll] at hB
  have g0 : l0.length ≤ 4000000 := by omega
  refine (Wire.wireGets l0 v0 W w0 g0).mono fun e W' ⟨he, hg⟩ => ?_
  subst he
  exact ⟨_, rfl, post_below (pa := p0 ++ []) (pv := []) hW' (fun _ _ _ => (trodAll_cons_mk (shut_bool Try.underlying4 _) trodAll_mk0)) (fun sp sp_ok => (trodAll_cons_mk (WideElems.Trod_stays laidOut (by kernel_rfl) (of_decide_eq_true (by kernel_rfl)) h0 (fun x hx => hg.same (hlt x (by simp [hx]))) (fun x hx => sp_ok x (by simp [hx]))) trodAll_mk0)) (fun _ _ => rfl) (by simp)
    hg (ok_one (by kernel_rfl) rfl (okWide_bool_mk Try.underlying4 _))⟩

theorem proved : Rows.WireGetsUptoSaid :=
  OpenClaim.holds_of_cond 12 Try.f12 rfl rfl rfl rfl rfl rfl rfl ⟨rfl, rfl, rfl, rfl, rfl⟩ rfl rfl rfl rfl rfl (by kernel_rfl) Try.func12 (by kernel_rfl)
    (of_decide_eq_true (by kernel_rfl)) (by unfold Func.isWrapper; first | (rw [if_pos (by decide +kernel)]; kernel_rfl) | (rw [if_neg (by decide +kernel)]; exact ⟨rfl, rfl⟩))
    (fun os started H enc _ F => lifted os started H enc F)
#print axioms proved
end Go.Proofs.Ytncmhenfgbcihaa.wireGetsP
