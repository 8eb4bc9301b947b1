/- The looker of rform, as a world holds it; its small methods: in, must, nought, reg, at, class. -/
import Derived.Test.YtncmhenfgbcihabRform
import Derived.Test.YtncmhenfgbcihabFormW
import Derived.Test.YtncmhenfgbcihabDrawn
namespace Go.Proofs.Ytncmhenfgbcihab
open Go.RowKit
set_option linter.unusedSimpArgs false
set_option linter.unusedVariables false

/-- below block B, but not at block b, a world is as it was -/
structure Keep (B b : Nat) (w w' : World) : Prop where
  os : w'.os = w.os
  tape : w'.tape = w.tape
  output : w'.output = w.output
  size : w.heap.size ≤ w'.heap.size
  block : ∀ k, k < B → k ≠ b → w'.heap[k]? = w.heap[k]?
namespace Keep
variable {B b : Nat} {w w' w'' : World}
theorem refl (B b : Nat) (w : World) : Keep B b w w := ⟨rfl, rfl, rfl, Nat.le_refl _, fun _ _ _ => rfl⟩
theorem trans (h : Keep B b w w') (k : Keep B b w' w'') : Keep B b w w'' :=
  ⟨k.os.trans h.os, k.tape.trans h.tape, k.output.trans h.output, Nat.le_trans h.size k.size, fun i hi hn => (k.block i hi hn).trans (h.block i hi hn)⟩
theorem mono {B' : Nat} (h : Keep B b w w') (hB : B' ≤ B) : Keep B' b w w' := ⟨h.os, h.tape, h.output, h.size, fun k hk hn => h.block k (Nat.lt_of_lt_of_le hk hB) hn⟩
theorem of_below (h : Below B w w') : Keep B b w w' := ⟨h.os, h.tape, h.output, h.size, fun k hk _ => h.block k hk⟩
theorem below (h : Keep B b w w') {B' : Nat} (h1 : B' ≤ B) (h2 : B' ≤ b) : Below B' w w' := ⟨h.os, h.tape, h.output, h.size, fun k hk => h.block k (by omega) (by omega)⟩
theorem alloc (h : Keep B b w w') (hB : B ≤ w'.heap.size) (o : Obj) : Keep B b w (w'.alloc o) := h.trans (of_below ((Below.refl _ _).alloc hB o))
theorem drew (h : Keep B b w w') : Keep B b w w'.drew := ⟨h.os, h.tape, h.output, h.size, h.block⟩
theorem drewN (h : Keep B b w w') (n : Nat) : Keep B b w (w'.drewN n) := ⟨h.os, h.tape, h.output, h.size, h.block⟩
theorem setCell (h : Keep B b w w') {p : Addr} (hp : p.block = b ∨ B ≤ p.block) (u : Value) : Keep B b w (w'.setCell p u) :=
  h.trans ⟨rfl, rfl, rfl, by simp [World.setCell], fun k hk hn => Below.heap_setCell _ _ _ _ (by rcases hp with hp | hp <;> omega)⟩
theorem cell (h : Keep B b w w') {c o : Nat} {v : Value} (h1 : c < B) (h2 : c ≠ b) (hc : w.cell? ⟨c, o, none⟩ = some v) : w'.cell? ⟨c, o, none⟩ = some v :=
  (World.cell?_of_block (a := ⟨c, o, none⟩) (h.block c h1 h2)).trans hc
end Keep

namespace Look
open Num Rd D HierW FormW

/-- the looker, at block b: its file, its method, whether all was so -/
def Lk (w : World) (b : Nat) (vc vm vp vcd vh : Value) (m : Me) (ok : Bool) : Prop :=
  (w.cell? ⟨b, 0, none⟩ = some vc ∧ w.cell? ⟨b, 1, none⟩ = some vm) ∧
  (w.cell? ⟨b, 2, none⟩ = some vp ∧ w.cell? ⟨b, 3, none⟩ = some (.int .i64 m.ret.kind) ∧ w.cell? ⟨b, 4, none⟩ = some (.int .i64 m.ret.cls) ∧ w.cell? ⟨b, 5, none⟩ = some (.int .i64 m.stack) ∧
    w.cell? ⟨b, 6, none⟩ = some (.int .i64 m.locals) ∧ w.cell? ⟨b, 7, none⟩ = some (.int .i64 m.regs) ∧ w.cell? ⟨b, 8, none⟩ = some vcd ∧ w.cell? ⟨b, 9, none⟩ = some vh) ∧
  w.cell? ⟨b, 10, none⟩ = some (.bool ok) ∧ w.frozen? ⟨b, 10, none⟩ = false

theorem Lk.lt {w : World} {b : Nat} {vc vm vp vcd vh : Value} {m : Me} {ok : Bool} (h : Lk w b vc vm vp vcd vh m ok) : b < w.heap.size := lt_cell h.1.1

theorem Lk.next {w w' : World} {b : Nat} {vc vm vp vcd vh : Value} {m : Me} {ok : Bool} (h : Lk w b vc vm vp vcd vh m ok) {B : Nat} (hb : Below B w w') (hlt : b < B) : Lk w' b vc vm vp vcd vh m ok := by
  obtain ⟨⟨h0, h1⟩, ⟨h2, h3, h4, h5, h6, h7, h8, h9⟩, h10, hf⟩ := h
  exact ⟨⟨kept hb hlt h0, kept hb hlt h1⟩, ⟨kept hb hlt h2, kept hb hlt h3, kept hb hlt h4, kept hb hlt h5, kept hb hlt h6, kept hb hlt h7, kept hb hlt h8, kept hb hlt h9⟩, kept hb hlt h10, (hb.frozen (p := ⟨b, 10, none⟩) hlt).trans hf⟩

theorem Lk.set {w : World} {b : Nat} {vc vm vp vcd vh : Value} {m : Me} {ok : Bool} (p : Bool) (h : Lk w b vc vm vp vcd vh m ok) : Lk (w.setCell ⟨b, 10, none⟩ (.bool p)) b vc vm vp vcd vh m p := by
  obtain ⟨⟨h0, h1⟩, ⟨h2, h3, h4, h5, h6, h7, h8, h9⟩, h10, hf⟩ := h
  refine ⟨⟨?_, ?_⟩, ⟨?_, ?_, ?_, ?_, ?_, ?_, ?_, ?_⟩, ?_, ?_⟩
  all_goals go_simp

theorem lin (n lo hi : Int) (w : World) : Calls Try.prog 110 #[.int .i64 n, .int .i64 lo, .int .i64 hi] w fun e w' => e = .returned (.bool (Form.rng n lo hi)) ∧ w = w' := by
  go_enter Try.func110, Try.ntmps110
  go_wp2
  all_goals go_ret
  all_goals go_tidy
  all_goals refine ⟨ret_bool ?_, rfl⟩
  all_goals simp_all [Form.rng]
  all_goals (intros; omega)
theorem linV (n lo hi : Int) (p : Bool) (w : World) (hp : Form.rng n lo hi = p) : Calls Try.prog 110 #[.int .i64 n, .int .i64 lo, .int .i64 hi] w fun e w' => e = .returned (.bool p) ∧ w = w' := by
  subst hp; exact lin n lo hi w

/-- what a method of the looker leaves: whether all was so, and p too -/
def After (w : World) (b : Nat) (vc vm vp vcd vh : Value) (m : Me) (ok : Bool) (w' : World) : Prop := Lk w' b vc vm vp vcd vh m ok ∧ Keep w.heap.size b w w'

set_option maxHeartbeats 1000000 in
theorem must (b n : Nat) (p ok : Bool) (vc vm vp vcd vh : Value) (m : Me) (w : World) (h : Lk w b vc vm vp vcd vh m ok) (hp : w.cell? ⟨n, 0, none⟩ = some (.bool p)) :
    Calls Try.prog 161 #[.pointer (some ⟨b, 0, none⟩), .slice (some ⟨n, 0, none⟩) 1 1] w fun e w' => e = .returned (.tuple #[]) ∧ After w b vc vm vp vcd vh m (ok && p) w' := by
  have hlt := h.lt
  have H := Lib.hid h
  obtain ⟨_, _, h10, hf⟩ := h
  go_enter Try.func161, Try.ntmps161
  go_wp2
  go_loopw [8] (fun i wr => (i = .int .i64 0 ∧ wr = w) ∨ (i = .int .i64 1 ∧ wr = w.setCell ⟨b, 10, none⟩ (.bool (ok && p)))) (fun i _ => 1 - (intOf i).toNat)
  case atStart => exact .inl ⟨rfl, rfl⟩
  case round =>
    rcases hrel with ⟨rfl, rfl⟩ | ⟨rfl, rfl⟩
    · cases ok
      · go_wp2
        go_roundw
        case rel => exact .inr ⟨rfl, by simp⟩
        case measure => simp [intOf]
      · go_wp2
        go_roundw
        case rel => exact .inr ⟨rfl, by simp⟩
        case measure => simp [intOf]
    · go_wp2
      go_end0
      exact ⟨rfl, H.out.set _, (Keep.refl w.heap.size b w).setCell (p := ⟨b, 10, none⟩) (.inl rfl) _⟩

set_option maxHeartbeats 2000000 in
theorem nought (b : Nat) (v : Value) (l : List Int) (ok : Bool) (vc vm vp vcd vh : Value) (m : Me) (w : World) (h : Lk w b vc vm vp vcd vh m ok)
    (hl : l.length ≤ 8) (hv : ∃ n cap, v = .slice (some ⟨n, 0, none⟩) l.length cap ∧ n ≠ b ∧ l.length ≤ cap ∧ cap ≤ 8 ∧ ∀ i (h : i < l.length), w.cell? ⟨n, i, none⟩ = some (.int .i64 l[i])) :
    Calls Try.prog 163 #[.pointer (some ⟨b, 0, none⟩), v] w fun e w' => e = .returned (.tuple #[]) ∧ After w b vc vm vp vcd vh m (ok && l.all fun n => decide (n = 0)) w' := by
  obtain ⟨n, cap, rfl, hne, hlc, hc8, hel⟩ := hv
  have hlt := h.lt
  have H := Lib.hid h
  clear h
  go_enter Try.func163, Try.ntmps163
  go_wp2
  go_loopw [8] (fun i wr => ∃ k : Nat, k ≤ l.length ∧ i = .int .i64 k ∧ Hid (Lk wr b vc vm vp vcd vh m (ok && (l.take k).all fun n => decide (n = 0))) ∧ Keep w.heap.size b w wr) (fun i _ => l.length - (intOf i).toNat)
  case atStart => exact ⟨0, by omega, rfl, by show Lk _ _ _ _ _ _ _ _ _; simpa using H.out, Keep.refl _ _ _⟩
  case round =>
    obtain ⟨k, hk, rfl, hlk, hkp⟩ := hrel
    have hks := hkp.size
    by_cases hlk2 : k < l.length
    · have g := hel k hlk2
      have hnlt := lt_cell g
      have g1 := hkp.cell hnlt hne g
      obtain ⟨x, hx⟩ := at_of hlk2
      rw [hx.out] at g1
      have hst : Hid ((l.take (k + 1)).all (fun n => decide (n = 0)) = ((l.take k).all (fun n => decide (n = 0)) && decide (x = 0))) := by
        show _ = _
        rw [List.take_succ_eq_append_getElem hlk2, List.all_append, hx.out]; simp
      obtain ⟨q, hq⟩ : ∃ q, Hid ((ok && (l.take k).all fun n => decide (n = 0)) = q) := ⟨_, rfl⟩
      rw [hq.out] at hlk
      clear g hel
      have hI : (k : Int) < l.length := by omega
      go_wp2_with fail
      refine (must b _ (x == 0) q vc vm vp vcd vh m _ (hlk.out.next (Below.alloc (Below.refl _ _) (Nat.le_refl _) _) hlk.out.lt) (by go_simp)).mono ?_
      rintro e w1 ⟨rfl, hA, hK⟩
      have hA2 := Lib.hid hA
      clear hA
      go_wp2_with fail
      go_roundw
      case rel =>
        refine ⟨k + 1, by omega, by go_num, ?_, hkp.trans ((Keep.alloc (Keep.refl _ _ _) (Nat.le_refl _) _).trans (hK.mono (by simp)) |>.mono hks)⟩
        rw [hst.out, ← Bool.and_assoc, hq.out, show decide (x = 0) = (x == 0) by rfl]
        exact hA2.out
      case measure => simp [intOf]; omega
    · have hge : ¬ (k : Int) < l.length := by omega
      have hst := Lib.hid (List.take_of_length_le (l := l) (i := k) (by omega))
      clear hel
      go_wp2_with fail
      go_end0
      rw [hst.out] at hlk
      exact ⟨rfl, hlk.out, hkp⟩

theorem reg_wide (regs n kd : Int) (S : Nat) (h : Form.slots [⟨kd, 0⟩] = S) : Form.rng n 0 (regs + 1 - S) = Rform.reg regs n kd := by
  unfold Rform.reg; rw [← h, slots_one]

set_option maxRecDepth 100000 in
set_option maxHeartbeats 4000000 in
theorem reg (b : Nat) (kd : Int) (v : Value) (l : List Int) (ok : Bool) (vc vm vp vcd vh : Value) (m : Me) (w : World) (h : Lk w b vc vm vp vcd vh m ok) (hkd : Ok kd) (hr : 0 ≤ m.regs ∧ m.regs ≤ 90)
    (hl : l.length ≤ 8) (hv : ∃ n cap, v = .slice (some ⟨n, 0, none⟩) l.length cap ∧ n ≠ b ∧ l.length ≤ cap ∧ cap ≤ 8 ∧ ∀ i (h : i < l.length), w.cell? ⟨n, i, none⟩ = some (.int .i64 l[i])) :
    Calls Try.prog 162 #[.pointer (some ⟨b, 0, none⟩), .int .i64 kd, v] w fun e w' => e = .returned (.tuple #[]) ∧ After w b vc vm vp vcd vh m (ok && l.all fun n => Rform.reg m.regs n kd) w' := by
  obtain ⟨n, cap, rfl, hne, hlc, hc8, hel⟩ := hv
  obtain ⟨hr1, hr2⟩ := hr
  have hlt := h.lt
  have H := Lib.hid h
  clear h
  obtain ⟨S, hS⟩ : ∃ S, Hid (Form.slots [⟨kd, 0⟩] = S) := ⟨_, rfl⟩
  have hS2 : (S : Int) ≤ 2 := by have := hS.out; have h := slots_one kd 0; rw [← this, h]; unfold Form.wide; split <;> omega
  go_enter Try.func162, Try.ntmps162
  go_wp2
  go_loopw [10] (fun i wr => ∃ k : Nat, k ≤ l.length ∧ i = .int .i64 k ∧ Hid (Lk wr b vc vm vp vcd vh m (ok && (l.take k).all fun n => Rform.reg m.regs n kd)) ∧ Keep w.heap.size b w wr) (fun i _ => l.length - (intOf i).toNat)
  case atStart => exact ⟨0, by omega, rfl, by show Lk _ _ _ _ _ _ _ _ _; simpa using H.out, Keep.refl _ _ _⟩
  case round =>
    obtain ⟨k, hk, rfl, hlk, hkp⟩ := hrel
    have hks := hkp.size
    by_cases hlk2 : k < l.length
    · have g := hel k hlk2
      have hnlt := lt_cell g
      have g1 := hkp.cell hnlt hne g
      obtain ⟨x, hx⟩ := at_of hlk2
      rw [hx.out] at g1
      have hst : Hid ((l.take (k + 1)).all (fun n => Rform.reg m.regs n kd) = ((l.take k).all (fun n => Rform.reg m.regs n kd) && Rform.reg m.regs x kd)) := by
        show _ = _
        rw [List.take_succ_eq_append_getElem hlk2, List.all_append, hx.out]; simp
      obtain ⟨q, hq⟩ : ∃ q, Hid ((ok && (l.take k).all fun n => Rform.reg m.regs n kd) = q) := ⟨_, rfl⟩
      rw [hq.out] at hlk
      clear g hel
      have hI : (k : Int) < l.length := by omega
      have z7 := hlk.out.2.1.2.2.2.2.2.1
      have hblt := hlk.out.lt
      have e1 : IntKind.i64.wrap (m.regs + 1) = m.regs + 1 := by rw [Num.wrap_i64, wrap64_id ⟨by omega, by omega⟩]
      have e2 : IntKind.i64.wrap (m.regs + 1 - (S : Int)) = m.regs + 1 - (S : Int) := by rw [Num.wrap_i64, wrap64_id ⟨by omega, by omega⟩]
      have E1 := Lib.hid e1
      have E2 := Lib.hid e2
      clear e1 e2
      go_wp2_with fail
      have e1 := E1.out
      have e2 := E2.out
      clear E1 E2
      refine wp_region_held_drew (S := fun w' => w'.cell? ⟨b, 7, none⟩ = some (.int .i64 m.regs)) (by kernel_rfl) (by (try dsimp only); first | exact z7 | go_keep) (fun hHeld => ?_)
      refine Drawn.tk 0 (some 14) rfl rfl (by assumption) ?_
      try simp only [Act.put, List.setIfInBounds_toArray, List.set_cons_zero, List.set_cons_succ]
      refine Drawn.tk 1 (some 15) rfl rfl (by assumption) ?_
      try simp only [Act.put, List.setIfInBounds_toArray, List.set_cons_zero, List.set_cons_succ]
      refine Drawn.tk 2 (some 16) rfl rfl (by assumption) ?_
      try simp only [Act.put, List.setIfInBounds_toArray, List.set_cons_zero, List.set_cons_succ]
      refine Drawn.tk 3 (some 17) rfl rfl (by assumption) ?_
      try simp only [Act.put, List.setIfInBounds_toArray, List.set_cons_zero, List.set_cons_succ]
      refine Drawn.tk 4 (some 18) rfl rfl (by assumption) ?_
      try simp only [Act.put, List.setIfInBounds_toArray, List.set_cons_zero, List.set_cons_succ]
      refine Drawn.tk 5 (some 19) rfl rfl (by assumption) ?_
      try simp only [Act.put, List.setIfInBounds_toArray, List.set_cons_zero, List.set_cons_succ]
      refine Drawn.tk 6 (some 20) rfl rfl (by assumption) ?_
      try simp only [Act.put, List.setIfInBounds_toArray, List.set_cons_zero, List.set_cons_succ]
      refine Drawn.tk 7 (some 21) rfl rfl (by assumption) ?_
      try simp only [Act.put, List.setIfInBounds_toArray, List.set_cons_zero, List.set_cons_succ]
      refine Drawn.tk 8 (some 22) rfl rfl (by assumption) ?_
      try simp only [Act.put, List.setIfInBounds_toArray, List.set_cons_zero, List.set_cons_succ]
      refine Drawn.tk 9 (some 23) rfl rfl (by assumption) ?_
      try simp only [Act.put, List.setIfInBounds_toArray, List.set_cons_zero, List.set_cons_succ]
      refine wpAnyH_ready (rs := [10]) (by kernel_rfl) (by simp) ?_
      refine AllReadyH.cons rfl (fun K hK => ?_) AllReadyH.nil
      go_simp
      refine hK.out _ _ (by (try dsimp only); go_simp) (fun hHeld => ?_)
      clear hK K
      try simp only [Act.put, List.setIfInBounds_toArray, List.set_cons_zero, List.set_cons_succ]
      refine wpAnyH_ready (rs := [11]) (by kernel_rfl) (by simp) ?_
      refine AllReadyH.cons rfl (fun K hK => ?_) AllReadyH.nil
      go_simp
      go_at_call 92
      refine (slotsV _ [⟨kd, 0⟩] S _ (Ts.one (by go_simp) (by go_simp) hkd (by unfold Ok; omega)) (by simp) hS.out).mono ?_
      rintro e w2 ⟨rfl, hb2⟩
      have hb3 : Below wr.heap.size wr w2 := Below.trans (by repeat' (first | with_reducible exact Below.refl _ _ | with_reducible assumption | exact Nat.le_refl _ | with_reducible refine Go.Proofs.Ytncmhenfgbcihab.Rd.below_drewN ?_ _ | with_reducible refine Below.alloc ?_ ?_ _ | with_reducible refine Below.setCell ?_ ?_ _ | with_reducible refine Below.drew ?_ | omega | (simp; omega) | (simp; done))) (hb2.mono (by simp))
      have hlk3 := Lib.hid (hlk.out.next hb3 hlk.out.lt)
      have hblt2 := hlk3.out.lt
      go_wp2_with fail
      refine hK.out _ _ (by (try dsimp only); exact hlk3.out.2.1.2.2.2.2.2.1) (fun hHeld => ?_)
      clear hK K
      try simp only [Act.put, List.setIfInBounds_toArray, List.set_cons_zero, List.set_cons_succ]
      refine Drawn.tk 12 (some 26) rfl rfl (by assumption) ?_
      try simp only [Act.put, List.setIfInBounds_toArray, List.set_cons_zero, List.set_cons_succ]
      refine wpAnyH_ready (rs := [13]) (by kernel_rfl) (by simp) ?_
      refine AllReadyH.cons rfl (fun K hK => ?_) AllReadyH.nil
      go_simp
      go_at_call 110
      refine (lin _ _ _ _).mono ?_
      rintro e w4 ⟨rfl, rfl⟩
      go_wp2_with fail
      refine hK.out _ _ (by (try dsimp only); exact hlk3.out.2.1.2.2.2.2.2.1) (fun hHeld => ?_)
      clear hK K
      try simp only [Act.put, List.setIfInBounds_toArray, List.set_cons_zero, List.set_cons_succ]
      refine wpAnyH_ready (rs := [14]) (by kernel_rfl) (by simp) ?_
      refine AllReadyH.cons rfl (fun K hK => ?_) AllReadyH.nil
      go_simp
      refine hK.out _ _ (by (try dsimp only); go_simp) (fun hHeld => ?_)
      clear hK K
      try simp only [Act.put, List.setIfInBounds_toArray, List.set_cons_zero, List.set_cons_succ]
      refine wpAnyH_ready (rs := [15]) (by kernel_rfl) (by simp) ?_
      refine AllReadyH.cons rfl (fun K hK => ?_) AllReadyH.nil
      go_simp
      refine (must b _ (Form.rng x 0 (m.regs + 1 - S)) q vc vm vp vcd vh m _ (hlk3.out.next (Below.alloc (Below.refl _ _) (Nat.le_refl _) _) hlk3.out.lt) (by go_simp)).mono ?_
      rintro e w5 ⟨rfl, hA, hK5⟩
      have hA2 := Lib.hid hA
      clear hA
      go_wp2_with fail
      refine hK.out _ _ (by (try dsimp only); exact hA2.out.2.1.2.2.2.2.2.1) (fun hHeld => ?_)
      clear hK K
      try simp only [Act.put, List.setIfInBounds_toArray, List.set_cons_zero, List.set_cons_succ]
      refine wpAnyH_done (by kernel_rfl) ?_ _
      clear e1 e2
      go_wp2_with fail
      go_roundw
      case rel =>
        refine ⟨k + 1, by omega, by go_num, ?_, hkp.trans ((Keep.of_below hb3).trans ((Keep.alloc (Keep.refl _ _ _) (Nat.le_refl _) _).trans (hK5.mono (by simp)) |>.mono hb3.size) |>.mono hks)⟩
        rw [hst.out, ← Bool.and_assoc, hq.out, ← reg_wide m.regs x kd S hS.out]
        exact hA2.out
      case measure => simp [intOf]; omega
    · have hge : ¬ (k : Int) < l.length := by omega
      have hst := Lib.hid (List.take_of_length_le (l := l) (i := k) (by omega))
      clear hel
      go_wp2_with fail
      go_end0
      rw [hst.out] at hlk
      exact ⟨rfl, hlk.out, hkp⟩

theorem regs_of {w : World} {b : Nat} {vc vm vp vcd vh : Value} {m : Me} {ok : Bool} (h : Lk w b vc vm vp vcd vh m ok) : w.cell? ⟨b, 7, none⟩ = some (.int .i64 m.regs) := h.2.1.2.2.2.2.2.1
theorem code_of {w : World} {b : Nat} {vc vm vp vcd vh : Value} {m : Me} {ok : Bool} (h : Lk w b vc vm vp vcd vh m ok) : w.cell? ⟨b, 8, none⟩ = some vcd := h.2.1.2.2.2.2.2.2.1

set_option maxHeartbeats 2000000 in
theorem at' (b : Nat) (n : Int) (ok : Bool) (vc vm vp vh : Value) (da : Option Addr) (dn dcap : Nat) (m : Me) (w : World) (h : Lk w b vc vm vp (.slice da dn dcap) vh m ok) (hd : dn ≤ dcap) (hd2 : dcap ≤ 9223372036854775807) :
    Calls Try.prog 164 #[.pointer (some ⟨b, 0, none⟩), .int .i64 n] w fun e w' => e = .returned (.tuple #[]) ∧ After w b vc vm vp (.slice da dn dcap) vh m (ok && Form.rng n 0 dn) w' := by
  have hlt := h.lt
  have H := Lib.hid h
  have z8 := code_of h
  clear h
  go_enter Try.func164, Try.ntmps164
  go_wp2_with (go_at_call 110; refine (lin _ _ _ _).mono ?_; rintro e w1 ⟨rfl, rfl⟩)
  refine (must b _ (Form.rng n 0 dn) ok vc vm vp (.slice da dn dcap) vh m _ (H.out.next (Below.alloc (Below.refl _ _) (Nat.le_refl _) _) H.out.lt) (by go_simp)).mono ?_
  rintro e w5 ⟨rfl, hA, hK5⟩
  have hA2 := Lib.hid hA
  clear hA
  go_wp2_with fail
  go_end0
  exact ⟨rfl, hA2.out, (Keep.alloc (Keep.refl _ _ _) (Nat.le_refl _) _).trans (hK5.mono (by simp))⟩

set_option maxHeartbeats 2000000 in
theorem cls (b : Nat) (n : Int) (ok : Bool) (vm vp vcd vh : Value) (ca : Option Addr) (cn ccap : Nat) (m : Me) (w : World) (h : Lk w b (.slice ca cn ccap) vm vp vcd vh m ok) (hd : cn ≤ ccap) (hd2 : ccap ≤ 9223372036854775807) :
    Calls Try.prog 206 #[.pointer (some ⟨b, 0, none⟩), .int .i64 n] w fun e w' => e = .returned (.tuple #[]) ∧ After w b (.slice ca cn ccap) vm vp vcd vh m (ok && Form.rng n 0 cn) w' := by
  have hlt := h.lt
  have H := Lib.hid h
  have z8 := h.1.1
  clear h
  go_enter Try.func206, Try.ntmps206
  go_wp2_with (go_at_call 110; refine (lin _ _ _ _).mono ?_; rintro e w1 ⟨rfl, rfl⟩)
  refine (must b _ (Form.rng n 0 cn) ok (.slice ca cn ccap) vm vp vcd vh m _ (H.out.next (Below.alloc (Below.refl _ _) (Nat.le_refl _) _) H.out.lt) (by go_simp)).mono ?_
  rintro e w5 ⟨rfl, hA, hK5⟩
  have hA2 := Lib.hid hA
  clear hA
  go_wp2_with fail
  go_end0
  exact ⟨rfl, hA2.out, (Keep.alloc (Keep.refl _ _ _) (Nat.le_refl _) _).trans (hK5.mono (by simp))⟩
end Look
end Go.Proofs.Ytncmhenfgbcihab
