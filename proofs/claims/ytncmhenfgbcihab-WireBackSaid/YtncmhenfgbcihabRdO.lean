/- Reading, at this program: the form's reading of each of package api's types gives what Rd says. -/
import Derived.Test.YtncmhenfgbcihabRd
namespace Go.Proofs.Ytncmhenfgbcihab
open Go.ChangeShapes Go.WideShapes Go.ChangeAt Go.RowKit
set_option linter.unusedSimpArgs false
set_option linter.unusedVariables false
namespace Rd
open Num
section
variable {H : Type} {enc : TypeId × Value → H} {w : World} {sp : Nat → Bool} {held : Bool}

theorem len1 {cs : List Value} (h : cs.length = 1) : ∃ c0, cs = [c0] := by
  match cs, h with
  | [c0], _ => exact ⟨c0, rfl⟩
theorem len2 {cs : List Value} (h : cs.length = 2) : ∃ c0 c1, cs = [c0, c1] := by
  match cs, h with
  | [c0, c1], _ => exact ⟨c0, c1, rfl⟩
theorem len4 {cs : List Value} (h : cs.length = 4) : ∃ c0 c1 c2 c3, cs = [c0, c1, c2, c3] := by
  match cs, h with
  | [c0, c1, c2, c3], _ => exact ⟨c0, c1, c2, c3, rfl⟩
theorem len6 {cs : List Value} (h : cs.length = 6) : ∃ c0 c1 c2 c3 c4 c5, cs = [c0, c1, c2, c3, c4, c5] := by
  match cs, h with
  | [c0, c1, c2, c3, c4, c5], _ => exact ⟨c0, c1, c2, c3, c4, c5, rfl⟩
theorem len8 {cs : List Value} (h : cs.length = 8) : ∃ c0 c1 c2 c3 c4 c5 c6 c7, cs = [c0, c1, c2, c3, c4, c5, c6, c7] := by
  match cs, h with
  | [c0, c1, c2, c3, c4, c5, c6, c7], _ => exact ⟨c0, c1, c2, c3, c4, c5, c6, c7, rfl⟩

theorem cells_int : Try.prog.cellsOf 3 = 1 := by kernel_rfl
theorem cells_int64 : Try.prog.cellsOf 2 = 1 := by kernel_rfl
theorem cells_ty : Try.prog.cellsOf 51 = 2 := by kernel_rfl
theorem cells_tys : Try.prog.cellsOf 49 = 1 := by kernel_rfl
theorem cells_ints : Try.prog.cellsOf 61 = 1 := by kernel_rfl
theorem cells_cls : Try.prog.cellsOf 70 = 2 := by kernel_rfl
theorem cells_clss : Try.prog.cellsOf 22 = 1 := by kernel_rfl
theorem cells_hd : Try.prog.cellsOf 90 = 4 := by kernel_rfl
theorem cells_hds : Try.prog.cellsOf 53 = 1 := by kernel_rfl
theorem cells_ins : Try.prog.cellsOf 63 = 6 := by kernel_rfl
theorem cells_inss : Try.prog.cellsOf 52 = 1 := by kernel_rfl
theorem cells_me : Try.prog.cellsOf 55 = 8 := by kernel_rfl
theorem cells_mes : Try.prog.cellsOf 23 = 1 := by kernel_rfl
theorem cells_fi : Try.prog.cellsOf 25 = 2 := by kernel_rfl

/-- field i of a struct's cells -/
theorem at_struct {t : TypeId} {fs : Array Field} (ht : Try.prog.underlying t = some (.struct fs)) {fuel : Nat} {cs : List Value} {x : DataW H × List MemPlace} (h : DataW.trod enc Try.prog w 0 sp held fuel t cs = some x) :
    cs.length = Try.prog.cellsOf t ∧ ∃ n, ∀ (i : Nat) (f : Field), fs[i]? = some f → ∃ y, DataW.trod enc Try.prog w 0 sp held n f.type ((cs.drop f.offset).take (Try.prog.cellsOf f.type)) = some y := by
  obtain ⟨xs, n, _, _, hl, hx, hf⟩ := DataW.trod_struct ht h
  refine ⟨hl, n, fun i f hi => ?_⟩
  have := hf i f hi
  have hlt : i < fs.size := by
    rw [Array.getElem?_eq_some_iff] at hi; exact hi.1
  rw [List.getElem?_eq_getElem (by omega)] at this
  exact ⟨_, this⟩

theorem fld {fs : Array Field} {n : Nat} {cs : List Value} (hf : ∀ (i : Nat) (f : Field), fs[i]? = some f → ∃ y, DataW.trod enc Try.prog w 0 sp held n f.type ((cs.drop f.offset).take (Try.prog.cellsOf f.type)) = some y)
    (i off t k : Nat) (hk : Try.prog.cellsOf t = k) (h : ∃ f, fs[i]? = some f ∧ f.type = t ∧ f.offset = off) : ∃ y, DataW.trod enc Try.prog w 0 sp held n t ((cs.drop off).take k) = some y := by
  obtain ⟨f, h1, h2, h3⟩ := h
  have := hf i f h1
  rw [h2, h3, hk] at this
  exact this

theorem int_of {n : Nat} {v : Value} {y : DataW H × List MemPlace} (h : DataW.trod enc Try.prog w 0 sp held n 3 [v] = some y) : ∃ k, v = .int .i64 k ∧ Ok k := by
  obtain ⟨k, hk, _, hw⟩ := DataW.trod_int Try.underlying3 h
  exact ⟨k, by simpa using hk, Ok.of_wf hw⟩
theorem int64_of {n : Nat} {v : Value} {y : DataW H × List MemPlace} (h : DataW.trod enc Try.prog w 0 sp held n 2 [v] = some y) : ∃ k, v = .int .i64 k ∧ Ok k := by
  obtain ⟨k, hk, _, hw⟩ := DataW.trod_int Try.underlying2 h
  exact ⟨k, by simpa using hk, Ok.of_wf hw⟩

theorem ty_of {fuel : Nat} {cs : List Value} {x : DataW H × List MemPlace} (h : DataW.trod enc Try.prog w 0 sp held fuel 51 cs = some x) : ∃ t : D.Ty, cs = [.int .i64 t.kind, .int .i64 t.cls] ∧ Ok t.kind ∧ Ok t.cls := by
  obtain ⟨hl, n, hf⟩ := at_struct Try.underlying51 h
  rw [cells_ty] at hl
  obtain ⟨c0, c1, rfl⟩ := len2 hl
  obtain ⟨y0, h0⟩ := fld hf 0 0 3 _ cells_int ⟨_, rfl, rfl, rfl⟩
  obtain ⟨y1, h1⟩ := fld hf 1 1 3 _ cells_int ⟨_, rfl, rfl, rfl⟩
  simp only [List.drop_zero, List.take_succ_cons, List.take_zero, List.drop_succ_cons] at h0 h1
  obtain ⟨k, rfl, hk⟩ := int_of h0
  obtain ⟨c, rfl, hc⟩ := int_of h1
  exact ⟨⟨k, c⟩, rfl, hk, hc⟩

theorem tys_of {fuel : Nat} {cs : List Value} {x : DataW H × List MemPlace} (h : DataW.trod enc Try.prog w 0 sp held fuel 49 cs = some x) : ∃ v l, cs = [v] ∧ Sl 2 ETy w w.heap.size v l :=
  Sl.of_trod Try.underlying49 cells_ty (by omega) (fun fuel b o cs x hb hc hl h => by
    obtain ⟨t, rfl, h1, h2⟩ := ty_of h
    exact ⟨t, hc 0 (by omega), hc 1 (by omega), h1, h2⟩) h

theorem ints_of {fuel : Nat} {cs : List Value} {x : DataW H × List MemPlace} (h : DataW.trod enc Try.prog w 0 sp held fuel 61 cs = some x) : ∃ v l, cs = [v] ∧ Sl 1 EInt w w.heap.size v l :=
  Sl.of_trod Try.underlying61 cells_int (by omega) (fun fuel b o cs x hb hc hl h => by
    obtain ⟨c0, rfl⟩ := len1 hl
    obtain ⟨k, rfl, hk⟩ := int_of h
    exact ⟨k, hc 0 (by omega), hk⟩) h

theorem cls_of {fuel : Nat} {cs : List Value} {x : DataW H × List MemPlace} (h : DataW.trod enc Try.prog w 0 sp held fuel 70 cs = some x) : ∃ (c : D.Cls) (v : Value), cs = [.int .i64 c.sup, v] ∧ Ok c.sup ∧ Sl 2 ETy w w.heap.size v c.fields := by
  obtain ⟨hl, n, hf⟩ := at_struct Try.underlying70 h
  rw [cells_cls] at hl
  obtain ⟨c0, c1, rfl⟩ := len2 hl
  obtain ⟨y0, h0⟩ := fld hf 0 0 3 _ cells_int ⟨_, rfl, rfl, rfl⟩
  obtain ⟨y1, h1⟩ := fld hf 1 1 49 _ cells_tys ⟨_, rfl, rfl, rfl⟩
  simp only [List.drop_zero, List.take_succ_cons, List.take_zero, List.drop_succ_cons] at h0 h1
  obtain ⟨k, rfl, hk⟩ := int_of h0
  obtain ⟨v, l, hv, hs⟩ := tys_of h1
  simp only [List.cons.injEq, and_true] at hv
  subst hv
  exact ⟨⟨k, l⟩, _, rfl, hk, hs⟩

theorem clss_of {fuel : Nat} {cs : List Value} {x : DataW H × List MemPlace} (h : DataW.trod enc Try.prog w 0 sp held fuel 22 cs = some x) : ∃ v l, cs = [v] ∧ Sl 2 ECls w w.heap.size v l :=
  Sl.of_trod Try.underlying22 cells_cls (by omega) (fun fuel b o cs x hb hc hl h => by
    obtain ⟨c, v, rfl, h1, h2⟩ := cls_of h
    exact ⟨c, hc 0 (by omega), h1, v, hc 1 (by omega), h2⟩) h

theorem hd_of {fuel : Nat} {cs : List Value} {x : DataW H × List MemPlace} (h : DataW.trod enc Try.prog w 0 sp held fuel 90 cs = some x) : ∃ d : D.Hd, cs = [.int .i64 d.lo, .int .i64 d.hi, .int .i64 d.go, .int .i64 d.cls] ∧ Ok d.lo ∧ Ok d.hi ∧ Ok d.go ∧ Ok d.cls := by
  obtain ⟨hl, n, hf⟩ := at_struct Try.underlying90 h
  rw [cells_hd] at hl
  obtain ⟨c0, c1, c2, c3, rfl⟩ := len4 hl
  obtain ⟨y0, h0⟩ := fld hf 0 0 3 _ cells_int ⟨_, rfl, rfl, rfl⟩
  obtain ⟨y1, h1⟩ := fld hf 1 1 3 _ cells_int ⟨_, rfl, rfl, rfl⟩
  obtain ⟨y2, h2⟩ := fld hf 2 2 3 _ cells_int ⟨_, rfl, rfl, rfl⟩
  obtain ⟨y3, h3⟩ := fld hf 3 3 3 _ cells_int ⟨_, rfl, rfl, rfl⟩
  simp only [List.drop_zero, List.take_succ_cons, List.take_zero, List.drop_succ_cons] at h0 h1 h2 h3
  obtain ⟨k0, rfl, q0⟩ := int_of h0
  obtain ⟨k1, rfl, q1⟩ := int_of h1
  obtain ⟨k2, rfl, q2⟩ := int_of h2
  obtain ⟨k3, rfl, q3⟩ := int_of h3
  exact ⟨⟨k0, k1, k2, k3⟩, rfl, q0, q1, q2, q3⟩

theorem hds_of {fuel : Nat} {cs : List Value} {x : DataW H × List MemPlace} (h : DataW.trod enc Try.prog w 0 sp held fuel 53 cs = some x) : ∃ v l, cs = [v] ∧ Sl 4 EHd w w.heap.size v l :=
  Sl.of_trod Try.underlying53 cells_hd (by omega) (fun fuel b o cs x hb hc hl h => by
    obtain ⟨t, rfl, h1, h2, h3, h4⟩ := hd_of h
    exact ⟨t, hc 0 (by omega), hc 1 (by omega), hc 2 (by omega), hc 3 (by omega), h1, h2, h3, h4⟩) h

theorem ins_of {fuel : Nat} {cs : List Value} {x : DataW H × List MemPlace} (h : DataW.trod enc Try.prog w 0 sp held fuel 63 cs = some x) : ∃ (i : D.Ins) (v : Value), cs = [.int .i64 i.op, .int .i64 i.a, .int .i64 i.b, .int .i64 i.c, .int .i64 i.n, v] ∧ (Ok i.op ∧ Ok i.a ∧ Ok i.b ∧ Ok i.c ∧ Ok i.n) ∧ Sl 1 EInt w w.heap.size v i.args := by
  obtain ⟨hl, n, hf⟩ := at_struct Try.underlying63 h
  rw [cells_ins] at hl
  obtain ⟨c0, c1, c2, c3, c4, c5, rfl⟩ := len6 hl
  obtain ⟨y0, h0⟩ := fld hf 0 0 3 _ cells_int ⟨_, rfl, rfl, rfl⟩
  obtain ⟨y1, h1⟩ := fld hf 1 1 3 _ cells_int ⟨_, rfl, rfl, rfl⟩
  obtain ⟨y2, h2⟩ := fld hf 2 2 3 _ cells_int ⟨_, rfl, rfl, rfl⟩
  obtain ⟨y3, h3⟩ := fld hf 3 3 3 _ cells_int ⟨_, rfl, rfl, rfl⟩
  obtain ⟨y4, h4⟩ := fld hf 4 4 2 _ cells_int64 ⟨_, rfl, rfl, rfl⟩
  obtain ⟨y5, h5⟩ := fld hf 5 5 61 _ cells_ints ⟨_, rfl, rfl, rfl⟩
  simp only [List.drop_zero, List.take_succ_cons, List.take_zero, List.drop_succ_cons] at h0 h1 h2 h3 h4 h5
  obtain ⟨k0, rfl, q0⟩ := int_of h0
  obtain ⟨k1, rfl, q1⟩ := int_of h1
  obtain ⟨k2, rfl, q2⟩ := int_of h2
  obtain ⟨k3, rfl, q3⟩ := int_of h3
  obtain ⟨k4, rfl, q4⟩ := int64_of h4
  obtain ⟨v, l, hv, hs⟩ := ints_of h5
  simp only [List.cons.injEq, and_true] at hv
  subst hv
  exact ⟨⟨k0, k1, k2, k3, k4, l⟩, _, rfl, ⟨q0, q1, q2, q3, q4⟩, hs⟩

theorem inss_of {fuel : Nat} {cs : List Value} {x : DataW H × List MemPlace} (h : DataW.trod enc Try.prog w 0 sp held fuel 52 cs = some x) : ∃ v l, cs = [v] ∧ Sl 6 EIns w w.heap.size v l :=
  Sl.of_trod Try.underlying52 cells_ins (by omega) (fun fuel b o cs x hb hc hl h => by
    obtain ⟨i, v, rfl, h1, h2⟩ := ins_of h
    exact ⟨i, hc 0 (by omega), hc 1 (by omega), hc 2 (by omega), hc 3 (by omega), hc 4 (by omega), h1, v, hc 5 (by omega), h2⟩) h

theorem me_of {fuel : Nat} {cs : List Value} {x : DataW H × List MemPlace} (h : DataW.trod enc Try.prog w 0 sp held fuel 55 cs = some x) : ∃ (m : D.Me) (vp vc vh : Value), cs = [vp, .int .i64 m.ret.kind, .int .i64 m.ret.cls, .int .i64 m.stack, .int .i64 m.locals, .int .i64 m.regs, vc, vh] ∧
    (Ok m.ret.kind ∧ Ok m.ret.cls ∧ Ok m.stack ∧ Ok m.locals ∧ Ok m.regs) ∧ Sl 2 ETy w w.heap.size vp m.params ∧ Sl 6 EIns w w.heap.size vc m.code ∧ Sl 4 EHd w w.heap.size vh m.handlers := by
  obtain ⟨hl, n, hf⟩ := at_struct Try.underlying55 h
  rw [cells_me] at hl
  obtain ⟨c0, c1, c2, c3, c4, c5, c6, c7, rfl⟩ := len8 hl
  obtain ⟨y0, h0⟩ := fld hf 0 0 49 _ cells_tys ⟨_, rfl, rfl, rfl⟩
  obtain ⟨y1, h1⟩ := fld hf 1 1 51 _ cells_ty ⟨_, rfl, rfl, rfl⟩
  obtain ⟨y2, h2⟩ := fld hf 2 3 3 _ cells_int ⟨_, rfl, rfl, rfl⟩
  obtain ⟨y3, h3⟩ := fld hf 3 4 3 _ cells_int ⟨_, rfl, rfl, rfl⟩
  obtain ⟨y4, h4⟩ := fld hf 4 5 3 _ cells_int ⟨_, rfl, rfl, rfl⟩
  obtain ⟨y5, h5⟩ := fld hf 5 6 52 _ cells_inss ⟨_, rfl, rfl, rfl⟩
  obtain ⟨y6, h6⟩ := fld hf 6 7 53 _ cells_hds ⟨_, rfl, rfl, rfl⟩
  simp only [List.drop_zero, List.take_succ_cons, List.take_zero, List.drop_succ_cons] at h0 h1 h2 h3 h4 h5 h6
  obtain ⟨v0, l0, hv0, hs0⟩ := tys_of h0
  obtain ⟨t, ht, ht1, ht2⟩ := ty_of h1
  obtain ⟨k2, rfl, q2⟩ := int_of h2
  obtain ⟨k3, rfl, q3⟩ := int_of h3
  obtain ⟨k4, rfl, q4⟩ := int_of h4
  obtain ⟨v5, l5, hv5, hs5⟩ := inss_of h5
  obtain ⟨v6, l6, hv6, hs6⟩ := hds_of h6
  simp only [List.cons.injEq, and_true] at hv0 ht hv5 hv6
  obtain ⟨rfl, rfl⟩ := ht
  subst hv0 hv5 hv6
  exact ⟨⟨l0, t, k2, k3, k4, l5, l6⟩, _, _, _, rfl, ⟨ht1, ht2, q2, q3, q4⟩, hs0, hs5, hs6⟩

theorem mes_of {fuel : Nat} {cs : List Value} {x : DataW H × List MemPlace} (h : DataW.trod enc Try.prog w 0 sp held fuel 23 cs = some x) : ∃ v l, cs = [v] ∧ Sl 8 EMe w w.heap.size v l :=
  Sl.of_trod Try.underlying23 cells_me (by omega) (fun fuel b o cs x hb hc hl h => by
    obtain ⟨m, vp, vc, vh, rfl, h1, h2, h3, h4⟩ := me_of h
    exact ⟨m, vp, vc, vh, hc 0 (by omega), hc 1 (by omega), hc 2 (by omega), hc 3 (by omega), hc 4 (by omega), hc 5 (by omega), hc 6 (by omega), hc 7 (by omega), h1, h2, h3, h4⟩) h

theorem fi_of {fuel : Nat} {cs : List Value} {x : DataW H × List MemPlace} (h : DataW.trod enc Try.prog w 0 sp held fuel 25 cs = some x) : ∃ (f : D.Fi) (vc vm : Value), cs = [vc, vm] ∧ Sl 2 ECls w w.heap.size vc f.classes ∧ Sl 8 EMe w w.heap.size vm f.methods := by
  obtain ⟨hl, n, hf⟩ := at_struct Try.underlying25 h
  rw [cells_fi] at hl
  obtain ⟨c0, c1, rfl⟩ := len2 hl
  obtain ⟨y0, h0⟩ := fld hf 0 0 22 _ cells_clss ⟨_, rfl, rfl, rfl⟩
  obtain ⟨y1, h1⟩ := fld hf 1 1 23 _ cells_mes ⟨_, rfl, rfl, rfl⟩
  simp only [List.drop_zero, List.take_succ_cons, List.take_zero, List.drop_succ_cons] at h0 h1
  obtain ⟨v0, l0, hv0, hs0⟩ := clss_of h0
  obtain ⟨v1, l1, hv1, hs1⟩ := mes_of h1
  simp only [List.cons.injEq, and_true] at hv0 hv1
  subst hv0 hv1
  exact ⟨⟨l0, l1⟩, _, _, rfl, hs0, hs1⟩

/-! ### arguments -/
set_option maxRecDepth 100000 in
theorem open_clss {r : Reach} {b0 : Nat} {v : Value} {d : DataW H} {ps : List MemPlace} (hval : Value.okWide Try.prog w r b0 22 v) (hd : DataW.Trod enc Try.prog w 0 sp held 22 v d ps) : ∃ l, Sl 2 ECls w w.heap.size v l := by
  obtain ⟨a, n, c, rfl⟩ := okWide_slice Try.underlying22 hval
  obtain ⟨fuel, hf⟩ := hd
  obtain ⟨v, l, hv, hs⟩ := clss_of hf
  simp [Value.cells] at hv
  subst hv
  exact ⟨l, hs⟩
set_option maxRecDepth 100000 in
theorem open_file {r : Reach} {b0 : Nat} {v : Value} {d : DataW H} {ps : List MemPlace} (hval : Value.okWide Try.prog w r b0 25 v) (hd : DataW.Trod enc Try.prog w 0 sp held 25 v d ps) : ∃ f, VFi w w.heap.size v f := by
  obtain ⟨cs, rfl, _⟩ := okWide_struct Try.underlying25 hval
  obtain ⟨fuel, hf⟩ := hd
  obtain ⟨f, vc, vm, hv, hs, hm⟩ := fi_of hf
  simp only [Value.cells] at hv
  refine ⟨f, vc, vm, ?_, hs, hm⟩
  congr 1
  exact Array.toList_inj.1 (by simpa using hv)
end
end Rd
end Go.Proofs.Ytncmhenfgbcihab
