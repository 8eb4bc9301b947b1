/- The looker's small methods, at the worlds in which they are called. -/
import Derived.Test.YtncmhenfgbcihabLook
namespace Go.Proofs.Ytncmhenfgbcihab
open Go.RowKit
set_option linter.unusedSimpArgs false
set_option linter.unusedVariables false
namespace Look
open Num Rd D HierW FormW
variable {w : World} {lb : Nat} {vc vm vp vcd vh : Value} {m : Me} {ok : Bool}

theorem After.before {o : Obj} {q : Bool} {w' : World} (h : After (w.alloc o) lb vc vm vp vcd vh m q w') : After w lb vc vm vp vcd vh m q w' :=
  ⟨h.1, (Keep.alloc (Keep.refl _ _ _) (Nat.le_refl _) _).trans (h.2.mono (by simp))⟩

theorem mustA {p : Bool} {T : TypeId} {nb : Nat} (hn : nb = w.heap.size) (h : Lk w lb vc vm vp vcd vh m ok) : Calls Try.prog 161 #[.pointer (some ⟨lb, 0, none⟩), .slice (some ⟨nb, 0, none⟩) 1 1] (w.alloc (.cells #[.bool p] T))
    fun e w' => e = .returned (.tuple #[]) ∧ After w lb vc vm vp vcd vh m (ok && p) w' := by
  subst hn
  exact (must lb w.heap.size p ok vc vm vp vcd vh m _ (h.next (Below.alloc (Below.refl _ _) (Nat.le_refl _) _) h.lt) (by go_simp)).mono fun e w' ⟨h1, h2⟩ => ⟨h1, h2.before⟩

theorem box1 {x : Int} {T : TypeId} {L : List Int} (hL : L = [x]) (hlt : lb < w.heap.size) : ∃ n cap, Value.slice (some ⟨w.heap.size, 0, none⟩) 1 1 = .slice (some ⟨n, 0, none⟩) L.length cap ∧ n ≠ lb ∧ L.length ≤ cap ∧ cap ≤ 8 ∧ ∀ i (h : i < L.length), (w.alloc (.cells #[.int .i64 x] T)).cell? ⟨n, i, none⟩ = some (.int .i64 L[i]) := by
  subst hL
  refine ⟨w.heap.size, 1, rfl, by omega, by simp, by omega, fun i h => ?_⟩
  obtain rfl : i = 0 := by simpa using h
  go_simp
theorem box2 {x y : Int} {T : TypeId} {L : List Int} (hL : L = [x, y]) (hlt : lb < w.heap.size) : ∃ n cap, Value.slice (some ⟨w.heap.size, 0, none⟩) 2 2 = .slice (some ⟨n, 0, none⟩) L.length cap ∧ n ≠ lb ∧ L.length ≤ cap ∧ cap ≤ 8 ∧ ∀ i (h : i < L.length), (w.alloc (.cells #[.int .i64 x, .int .i64 y] T)).cell? ⟨n, i, none⟩ = some (.int .i64 L[i]) := by
  subst hL
  refine ⟨w.heap.size, 2, rfl, by omega, by simp, by omega, fun i h => ?_⟩
  have h2 : i = 0 ∨ i = 1 := by simp at h; omega
  rcases h2 with rfl | rfl <;> go_simp
theorem box3 {x y z : Int} {T : TypeId} {L : List Int} (hL : L = [x, y, z]) (hlt : lb < w.heap.size) : ∃ n cap, Value.slice (some ⟨w.heap.size, 0, none⟩) 3 3 = .slice (some ⟨n, 0, none⟩) L.length cap ∧ n ≠ lb ∧ L.length ≤ cap ∧ cap ≤ 8 ∧ ∀ i (h : i < L.length), (w.alloc (.cells #[.int .i64 x, .int .i64 y, .int .i64 z] T)).cell? ⟨n, i, none⟩ = some (.int .i64 L[i]) := by
  subst hL
  refine ⟨w.heap.size, 3, rfl, by omega, by simp, by omega, fun i h => ?_⟩
  have h2 : i = 0 ∨ i = 1 ∨ i = 2 := by simp at h; omega
  rcases h2 with rfl | rfl | rfl <;> go_simp

theorem nought1A {x : Int} {T : TypeId} {nb : Nat} (hn : nb = w.heap.size) (h : Lk w lb vc vm vp vcd vh m ok) : Calls Try.prog 163 #[.pointer (some ⟨lb, 0, none⟩), .slice (some ⟨nb, 0, none⟩) 1 1] (w.alloc (.cells #[.int .i64 x] T))
    fun e w' => e = .returned (.tuple #[]) ∧ After w lb vc vm vp vcd vh m (ok && decide (x = 0)) w' := by
  subst hn
  exact (nought lb _ [x] ok vc vm vp vcd vh m _ (h.next (Below.alloc (Below.refl _ _) (Nat.le_refl _) _) h.lt) (by simp) (box1 rfl h.lt)).mono fun e w' ⟨h1, h2⟩ => ⟨h1, by simpa using h2.before⟩
theorem nought2A {x y : Int} {T : TypeId} {nb : Nat} (hn : nb = w.heap.size) (h : Lk w lb vc vm vp vcd vh m ok) : Calls Try.prog 163 #[.pointer (some ⟨lb, 0, none⟩), .slice (some ⟨nb, 0, none⟩) 2 2] (w.alloc (.cells #[.int .i64 x, .int .i64 y] T))
    fun e w' => e = .returned (.tuple #[]) ∧ After w lb vc vm vp vcd vh m (ok && (decide (x = 0) && decide (y = 0))) w' := by
  subst hn
  exact (nought lb _ [x, y] ok vc vm vp vcd vh m _ (h.next (Below.alloc (Below.refl _ _) (Nat.le_refl _) _) h.lt) (by simp) (box2 rfl h.lt)).mono fun e w' ⟨h1, h2⟩ => ⟨h1, by simpa using h2.before⟩

theorem reg1A {kd x : Int} {T : TypeId} {nb : Nat} (hn : nb = w.heap.size) (h : Lk w lb vc vm vp vcd vh m ok) (hkd : Ok kd) (hr : 0 ≤ m.regs ∧ m.regs ≤ 90) : Calls Try.prog 162 #[.pointer (some ⟨lb, 0, none⟩), .int .i64 kd, .slice (some ⟨nb, 0, none⟩) 1 1] (w.alloc (.cells #[.int .i64 x] T))
    fun e w' => e = .returned (.tuple #[]) ∧ After w lb vc vm vp vcd vh m (ok && Rform.reg m.regs x kd) w' := by
  subst hn
  exact (reg lb kd _ [x] ok vc vm vp vcd vh m _ (h.next (Below.alloc (Below.refl _ _) (Nat.le_refl _) _) h.lt) hkd hr (by simp) (box1 rfl h.lt)).mono fun e w' ⟨h1, h2⟩ => ⟨h1, by simpa using h2.before⟩
theorem reg2A {kd x y : Int} {T : TypeId} {nb : Nat} (hn : nb = w.heap.size) (h : Lk w lb vc vm vp vcd vh m ok) (hkd : Ok kd) (hr : 0 ≤ m.regs ∧ m.regs ≤ 90) : Calls Try.prog 162 #[.pointer (some ⟨lb, 0, none⟩), .int .i64 kd, .slice (some ⟨nb, 0, none⟩) 2 2] (w.alloc (.cells #[.int .i64 x, .int .i64 y] T))
    fun e w' => e = .returned (.tuple #[]) ∧ After w lb vc vm vp vcd vh m (ok && (Rform.reg m.regs x kd && Rform.reg m.regs y kd)) w' := by
  subst hn
  exact (reg lb kd _ [x, y] ok vc vm vp vcd vh m _ (h.next (Below.alloc (Below.refl _ _) (Nat.le_refl _) _) h.lt) hkd hr (by simp) (box2 rfl h.lt)).mono fun e w' ⟨h1, h2⟩ => ⟨h1, by simpa using h2.before⟩
theorem reg3A {kd x y z : Int} {T : TypeId} {nb : Nat} (hn : nb = w.heap.size) (h : Lk w lb vc vm vp vcd vh m ok) (hkd : Ok kd) (hr : 0 ≤ m.regs ∧ m.regs ≤ 90) : Calls Try.prog 162 #[.pointer (some ⟨lb, 0, none⟩), .int .i64 kd, .slice (some ⟨nb, 0, none⟩) 3 3] (w.alloc (.cells #[.int .i64 x, .int .i64 y, .int .i64 z] T))
    fun e w' => e = .returned (.tuple #[]) ∧ After w lb vc vm vp vcd vh m (ok && (Rform.reg m.regs x kd && (Rform.reg m.regs y kd && Rform.reg m.regs z kd))) w' := by
  subst hn
  exact (reg lb kd _ [x, y, z] ok vc vm vp vcd vh m _ (h.next (Below.alloc (Below.refl _ _) (Nat.le_refl _) _) h.lt) hkd hr (by simp) (box3 rfl h.lt)).mono fun e w' ⟨h1, h2⟩ => ⟨h1, by simpa using h2.before⟩

theorem atA {n : Int} {da : Option Addr} {dn dcap : Nat} (h : Lk w lb vc vm vp (.slice da dn dcap) vh m ok) (hd : dn ≤ dcap) (hd2 : dcap ≤ 9223372036854775807) : Calls Try.prog 164 #[.pointer (some ⟨lb, 0, none⟩), .int .i64 n] w
    fun e w' => e = .returned (.tuple #[]) ∧ After w lb vc vm vp (.slice da dn dcap) vh m (ok && Form.rng n 0 dn) w' := at' lb n ok vc vm vp vh da dn dcap m w h hd hd2
theorem clsA {n : Int} {ca : Option Addr} {cn ccap : Nat} (h : Lk w lb (.slice ca cn ccap) vm vp vcd vh m ok) (hd : cn ≤ ccap) (hd2 : ccap ≤ 9223372036854775807) : Calls Try.prog 206 #[.pointer (some ⟨lb, 0, none⟩), .int .i64 n] w
    fun e w' => e = .returned (.tuple #[]) ∧ After w lb (.slice ca cn ccap) vm vp vcd vh m (ok && Form.rng n 0 cn) w' := cls lb n ok vm vp vcd vh ca cn ccap m w h hd hd2

/-! behind a draw -/
theorem After.behind {q : Bool} {w' : World} (h : After w.drew lb vc vm vp vcd vh m q w') : After w lb vc vm vp vcd vh m q w' := ⟨h.1, (Keep.drew (Keep.refl w.heap.size lb w)).trans h.2⟩
theorem reg1D {kd x : Int} {T : TypeId} {nb : Nat} (hn : nb = w.heap.size) (h : Lk w lb vc vm vp vcd vh m ok) (hkd : Ok kd) (hr : 0 ≤ m.regs ∧ m.regs ≤ 90) : Calls Try.prog 162 #[.pointer (some ⟨lb, 0, none⟩), .int .i64 kd, .slice (some ⟨nb, 0, none⟩) 1 1] (w.alloc (.cells #[.int .i64 x] T)).drew
    fun e w' => e = .returned (.tuple #[]) ∧ After w lb vc vm vp vcd vh m (ok && Rform.reg m.regs x kd) w' := by
  have h2 := reg1A (w := w.drew) (x := x) (T := T) hn (h.next (Below.drew (Below.refl _ _)) h.lt) hkd hr
  exact h2.mono fun e w' ⟨h1, h3⟩ => ⟨h1, h3.behind⟩
theorem mustD {p : Bool} {T : TypeId} {nb : Nat} (hn : nb = w.heap.size) (h : Lk w lb vc vm vp vcd vh m ok) : Calls Try.prog 161 #[.pointer (some ⟨lb, 0, none⟩), .slice (some ⟨nb, 0, none⟩) 1 1] (w.alloc (.cells #[.bool p] T)).drew
    fun e w' => e = .returned (.tuple #[]) ∧ After w lb vc vm vp vcd vh m (ok && p) w' := by
  have h2 := mustA (w := w.drew) (p := p) (T := T) hn (h.next (Below.drew (Below.refl _ _)) h.lt)
  exact h2.mono fun e w' ⟨h1, h3⟩ => ⟨h1, h3.behind⟩
end Look
end Go.Proofs.Ytncmhenfgbcihab
