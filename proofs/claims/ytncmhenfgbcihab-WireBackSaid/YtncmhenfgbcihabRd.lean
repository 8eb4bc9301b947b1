/- Reading: the plain data of package api, and what it says that a world holds them. No function of the program is walked here. -/
import Derived.Test.YtncmhenfgbcihabNum
import Derived.Test.YtncmhenfgbcihabRows
import Derived.WalkKit
import Derived.ProofKit
import Derived.OpenShut
import Derived.Carry
import Derived.Deep.Draws
namespace Go.Proofs.Ytncmhenfgbcihab
open Go.ChangeShapes Go.WideShapes Go.ChangeAt Go.RowKit
set_option linter.unusedSimpArgs false
set_option linter.unusedVariables false

namespace D
structure Ty where
  kind : Int
  cls : Int
structure Cls where
  sup : Int
  fields : List Ty
structure Hd where
  lo : Int
  hi : Int
  go : Int
  cls : Int
structure Ins where
  op : Int
  a : Int
  b : Int
  c : Int
  n : Int
  args : List Int
structure Me where
  params : List Ty
  ret : Ty
  stack : Int
  locals : Int
  regs : Int
  code : List Ins
  handlers : List Hd
structure Fi where
  classes : List Cls
  methods : List Me
end D

namespace Rd
open Num

/-- a slice of elements of so many cells reads as a list -/
def Sl {α : Type} (size : Nat) (E : World → Nat → Nat → Nat → α → Prop) (w : World) (B : Nat) (v : Value) (l : List α) : Prop :=
  ∃ (a : Option Addr) (cap : Nat), v = .slice a l.length cap ∧ l.length ≤ cap ∧ cap ≤ 9223372036854775807 ∧
    ∀ i (h : i < l.length), ∃ b o, a = some ⟨b, o, none⟩ ∧ b < B ∧ E w B b (o + i * size) l[i]

def EInt (w : World) (_B b o : Nat) (n : Int) : Prop := w.cell? ⟨b, o, none⟩ = some (.int .i64 n) ∧ Ok n
def ETy (w : World) (_B b o : Nat) (t : D.Ty) : Prop :=
  w.cell? ⟨b, o, none⟩ = some (.int .i64 t.kind) ∧ w.cell? ⟨b, o + 1, none⟩ = some (.int .i64 t.cls) ∧ Ok t.kind ∧ Ok t.cls
def ECls (w : World) (B b o : Nat) (c : D.Cls) : Prop :=
  w.cell? ⟨b, o, none⟩ = some (.int .i64 c.sup) ∧ Ok c.sup ∧ ∃ v, w.cell? ⟨b, o + 1, none⟩ = some v ∧ Sl 2 ETy w B v c.fields
def EHd (w : World) (_B b o : Nat) (h : D.Hd) : Prop :=
  w.cell? ⟨b, o, none⟩ = some (.int .i64 h.lo) ∧ w.cell? ⟨b, o + 1, none⟩ = some (.int .i64 h.hi) ∧ w.cell? ⟨b, o + 2, none⟩ = some (.int .i64 h.go) ∧ w.cell? ⟨b, o + 3, none⟩ = some (.int .i64 h.cls) ∧
    Ok h.lo ∧ Ok h.hi ∧ Ok h.go ∧ Ok h.cls
def EIns (w : World) (B b o : Nat) (i : D.Ins) : Prop :=
  w.cell? ⟨b, o, none⟩ = some (.int .i64 i.op) ∧ w.cell? ⟨b, o + 1, none⟩ = some (.int .i64 i.a) ∧ w.cell? ⟨b, o + 2, none⟩ = some (.int .i64 i.b) ∧ w.cell? ⟨b, o + 3, none⟩ = some (.int .i64 i.c) ∧ w.cell? ⟨b, o + 4, none⟩ = some (.int .i64 i.n) ∧
    (Ok i.op ∧ Ok i.a ∧ Ok i.b ∧ Ok i.c ∧ Ok i.n) ∧ ∃ v, w.cell? ⟨b, o + 5, none⟩ = some v ∧ Sl 1 EInt w B v i.args
def EMe (w : World) (B b o : Nat) (m : D.Me) : Prop :=
  ∃ vp vc vh, w.cell? ⟨b, o, none⟩ = some vp ∧ w.cell? ⟨b, o + 1, none⟩ = some (.int .i64 m.ret.kind) ∧ w.cell? ⟨b, o + 2, none⟩ = some (.int .i64 m.ret.cls) ∧
    w.cell? ⟨b, o + 3, none⟩ = some (.int .i64 m.stack) ∧ w.cell? ⟨b, o + 4, none⟩ = some (.int .i64 m.locals) ∧ w.cell? ⟨b, o + 5, none⟩ = some (.int .i64 m.regs) ∧
    w.cell? ⟨b, o + 6, none⟩ = some vc ∧ w.cell? ⟨b, o + 7, none⟩ = some vh ∧
    (Ok m.ret.kind ∧ Ok m.ret.cls ∧ Ok m.stack ∧ Ok m.locals ∧ Ok m.regs) ∧ Sl 2 ETy w B vp m.params ∧ Sl 6 EIns w B vc m.code ∧ Sl 4 EHd w B vh m.handlers

/-- a method's value -/
def VMe (w : World) (B : Nat) (v : Value) (m : D.Me) : Prop :=
  ∃ vp vc vh, v = .agg #[vp, .int .i64 m.ret.kind, .int .i64 m.ret.cls, .int .i64 m.stack, .int .i64 m.locals, .int .i64 m.regs, vc, vh] ∧
    (Ok m.ret.kind ∧ Ok m.ret.cls ∧ Ok m.stack ∧ Ok m.locals ∧ Ok m.regs) ∧ Sl 2 ETy w B vp m.params ∧ Sl 6 EIns w B vc m.code ∧ Sl 4 EHd w B vh m.handlers
def VIns (w : World) (B : Nat) (v : Value) (i : D.Ins) : Prop :=
  ∃ va, v = .agg #[.int .i64 i.op, .int .i64 i.a, .int .i64 i.b, .int .i64 i.c, .int .i64 i.n, va] ∧ (Ok i.op ∧ Ok i.a ∧ Ok i.b ∧ Ok i.c ∧ Ok i.n) ∧ Sl 1 EInt w B va i.args
def VFi (w : World) (B : Nat) (v : Value) (f : D.Fi) : Prop :=
  ∃ vc vm, v = .agg #[vc, vm] ∧ Sl 2 ECls w B vc f.classes ∧ Sl 8 EMe w B vm f.methods

/-! ### what stays -/
def Mono {α : Type} (E : World → Nat → Nat → Nat → α → Prop) : Prop :=
  ∀ w w' B B' b o x, Below B w w' → B ≤ B' → b < B → E w B b o x → E w' B' b o x

theorem Sl.mono {α : Type} {size : Nat} {E : World → Nat → Nat → Nat → α → Prop} (hE : Mono E) {w w' : World} {B B' : Nat} {v : Value} {l : List α} (h : Sl size E w B v l) (hb : Below B w w') (hB : B ≤ B') : Sl size E w' B' v l := by
  obtain ⟨a, cap, hv, hl, hc, h⟩ := h
  refine ⟨a, cap, hv, hl, hc, fun i hi => ?_⟩
  obtain ⟨b, o, ha, hlt, he⟩ := h i hi
  exact ⟨b, o, ha, Nat.lt_of_lt_of_le hlt hB, hE _ _ _ _ _ _ _ hb hB hlt he⟩

theorem mInt : Mono EInt := fun w w' B B' b o x hb _ hlt h => by
  unfold EInt at *; rw [hb.cell (p := ⟨b, o, none⟩) hlt]; exact h
theorem mTy : Mono ETy := fun w w' B B' b o x hb _ hlt h => by
  unfold ETy at *; rw [hb.cell (p := ⟨b, o, none⟩) hlt, hb.cell (p := ⟨b, o + 1, none⟩) hlt]; exact h
theorem mCls : Mono ECls := fun w w' B B' b o x hb hB hlt h => by
  unfold ECls at *; rw [hb.cell (p := ⟨b, o, none⟩) hlt, hb.cell (p := ⟨b, o + 1, none⟩) hlt]
  obtain ⟨h1, h2, v, h3, h4⟩ := h
  exact ⟨h1, h2, v, h3, h4.mono mTy hb hB⟩
theorem mHd : Mono EHd := fun w w' B B' b o x hb _ hlt h => by
  unfold EHd at *; rw [hb.cell (p := ⟨b, o, none⟩) hlt, hb.cell (p := ⟨b, o + 1, none⟩) hlt, hb.cell (p := ⟨b, o + 2, none⟩) hlt, hb.cell (p := ⟨b, o + 3, none⟩) hlt]; exact h
theorem mIns : Mono EIns := fun w w' B B' b o x hb hB hlt h => by
  unfold EIns at *; rw [hb.cell (p := ⟨b, o, none⟩) hlt, hb.cell (p := ⟨b, o + 1, none⟩) hlt, hb.cell (p := ⟨b, o + 2, none⟩) hlt, hb.cell (p := ⟨b, o + 3, none⟩) hlt, hb.cell (p := ⟨b, o + 4, none⟩) hlt, hb.cell (p := ⟨b, o + 5, none⟩) hlt]
  obtain ⟨h1, h2, h3, h4, h5, h6, v, h7, h8⟩ := h
  exact ⟨h1, h2, h3, h4, h5, h6, v, h7, h8.mono mInt hb hB⟩
theorem mMe : Mono EMe := fun w w' B B' b o x hb hB hlt h => by
  unfold EMe at *
  rw [hb.cell (p := ⟨b, o, none⟩) hlt, hb.cell (p := ⟨b, o + 1, none⟩) hlt, hb.cell (p := ⟨b, o + 2, none⟩) hlt, hb.cell (p := ⟨b, o + 3, none⟩) hlt, hb.cell (p := ⟨b, o + 4, none⟩) hlt, hb.cell (p := ⟨b, o + 5, none⟩) hlt, hb.cell (p := ⟨b, o + 6, none⟩) hlt, hb.cell (p := ⟨b, o + 7, none⟩) hlt]
  obtain ⟨vp, vc, vh, h1, h2, h3, h4, h5, h6, h7, h8, h9, h10, h11, h12⟩ := h
  exact ⟨vp, vc, vh, h1, h2, h3, h4, h5, h6, h7, h8, h9, h10.mono mTy hb hB, h11.mono mIns hb hB, h12.mono mHd hb hB⟩
theorem VMe.mono {w w' : World} {B B' : Nat} {v : Value} {m : D.Me} (h : VMe w B v m) (hb : Below B w w') (hB : B ≤ B') : VMe w' B' v m := by
  obtain ⟨vp, vc, vh, h1, h2, h3, h4, h5⟩ := h
  exact ⟨vp, vc, vh, h1, h2, h3.mono mTy hb hB, h4.mono mIns hb hB, h5.mono mHd hb hB⟩
theorem VIns.mono {w w' : World} {B B' : Nat} {v : Value} {m : D.Ins} (h : VIns w B v m) (hb : Below B w w') (hB : B ≤ B') : VIns w' B' v m := by
  obtain ⟨va, h1, h2, h3⟩ := h
  exact ⟨va, h1, h2, h3.mono mInt hb hB⟩
theorem VFi.mono {w w' : World} {B B' : Nat} {v : Value} {f : D.Fi} (h : VFi w B v f) (hb : Below B w w') (hB : B ≤ B') : VFi w' B' v f := by
  obtain ⟨vc, vm, h1, h2, h3⟩ := h
  exact ⟨vc, vm, h1, h2.mono mCls hb hB, h3.mono mMe hb hB⟩

theorem below_drewN {B : Nat} {a w : World} (h : Below B a w) (n : Nat) : Below B a (w.drewN n) := ⟨h.os, h.tape, h.output, h.size, h.block⟩

/-! ### out of the form's own reading -/
section
variable {H : Type} {enc : TypeId × Value → H} {w : World} {sp : Nat → Bool} {held : Bool}

theorem list_of {α : Type} (n : Nat) (Q : Nat → α → Prop) (h : ∀ i, i < n → ∃ x, Q i x) : ∃ l : List α, l.length = n ∧ ∀ i (hi : i < l.length), Q i l[i] := by
  induction n with
  | zero => exact ⟨[], rfl, fun i hi => absurd hi (by simp)⟩
  | succ n ih =>
    obtain ⟨l, hl, hq⟩ := ih (fun i hi => h i (by omega))
    obtain ⟨x, hx⟩ := h n (by omega)
    refine ⟨l ++ [x], by simp [hl], fun i hi => ?_⟩
    by_cases hlt : i < l.length
    · rw [List.getElem_append_left hlt]; exact hq i hlt
    · have : i = l.length := by simp at hi; omega
      subst this
      simp; rw [hl]; exact hx

theorem Sl.of_trod {P : Program} {α : Type} {size : Nat} {E : World → Nat → Nat → Nat → α → Prop} {t e : TypeId} (ht : P.underlying t = some (.slice e)) (hs : P.cellsOf e = size) (h0 : 0 < size)
    (hE : ∀ fuel b o cs x, b < w.heap.size → (∀ i, i < size → w.cell? ⟨b, o + i, none⟩ = cs[i]?) → cs.length = size → DataW.trod enc P w 0 sp held fuel e cs = some x → ∃ y, E w w.heap.size b o y)
    {fuel : Nat} {cs : List Value} {x : DataW H × List MemPlace} (h : DataW.trod enc P w 0 sp held fuel t cs = some x) : ∃ v l, cs = [v] ∧ Sl size E w w.heap.size v l := by
  rcases DataW.trod_slice ht h with ⟨rfl, _⟩ | ⟨a, len, cap, elems, rest, n, _, rfl, _, hb, hl, hc, hlen, hel, _, _⟩
  · exact ⟨_, [], rfl, none, 0, rfl, by simp, by omega, fun i hi => absurd hi (by simp)⟩
  · subst hs
    have key : ∀ i, i < len → ∃ y, (∃ b o, a = ⟨b, o, none⟩ ∧ b < w.heap.size ∧ E w w.heap.size b (o + i * P.cellsOf e) y) := by
      intro i hi
      have h1 := hel i hi
      rw [List.getElem?_eq_getElem (by omega)] at h1
      obtain ⟨cs, hc1, hc2⟩ := Option.bind_eq_some_iff.1 h1
      have hblk := World.cells?_block hc1 h0
      obtain ⟨_, hcl, hcc⟩ := World.cells?_some hc1
      have hspot : a.spot = none := by
        cases hsp : a.spot with
        | none => rfl
        | some s =>
          exfalso
          have hel0 := hel 0 (by omega)
          rw [List.getElem?_eq_getElem (by omega)] at hel0
          obtain ⟨cs0, hd1, _⟩ := Option.bind_eq_some_iff.1 hel0
          obtain ⟨_, hd2, hd3⟩ := World.cells?_some hd1
          have hd4 := hd3 0 h0
          rw [List.getElem?_eq_getElem (by omega)] at hd4
          simp [Addr.add, World.cell?, hsp] at hd4
          split at hd4 <;> simp_all
      obtain ⟨b, o, s⟩ := a
      simp only at hspot
      subst hspot
      have hbb : b < w.heap.size := by
        simp only [Addr.add] at hblk; split at hblk <;> exact hblk
      obtain ⟨y, hy⟩ := hE n b (o + i * P.cellsOf e) cs _ hbb (fun j hj => by
        have := hcc j hj
        rw [← this]
        simp only [Addr.add]
        by_cases q1 : i * P.cellsOf e = 0 <;> by_cases q2 : j = 0 <;> simp [q1, q2]) hcl hc2
      exact ⟨y, b, o, rfl, hbb, hy⟩
    obtain ⟨l, hl1, hl2⟩ := list_of len _ key
    subst hl1
    refine ⟨_, l, rfl, some a, cap, rfl, hl, by have : maxLen = 9223372036854775807 := rfl
                                                omega, fun i hi => ?_⟩
    obtain ⟨b, o, ha, hbb, hy⟩ := hl2 i hi
    exact ⟨b, o, by rw [ha], hbb, hy⟩
end
end Rd
end Go.Proofs.Ytncmhenfgbcihab
