/- hier.Up: its closure calls yield at a class and at those above it. -/
import Derived.Test.YtncmhenfgbcihaaUp
namespace Go.Proofs.Ytncmhenfgbcihaa
open Go.RowKit
set_option linter.unusedSimpArgs false
set_option linter.unusedVariables false
attribute [local go_sem] Oper.semAt_some
namespace UpW
open HierW Rd D Go.Shelf

/-- the number in a cell -/
def boxed (W : World) (b : Nat) : Int := match W.cell? ⟨b, 0, none⟩ with | some (.int _ c) => c | _ => 0
theorem boxed_eq {W : World} {b : Nat} {k : IntKind} {c : Int} (h : W.cell? ⟨b, 0, none⟩ = some (.int k c)) : boxed W b = c := by rw [boxed, h]

theorem up_next {l : List Cls} (hw : Hier.Wf l) {c0 c : Int} {pre : List Int} (h : Hier.up l c0 = pre ++ Hier.up l c) (hc : 0 ≤ c ∧ c < l.length) : Hier.up l c0 = (pre ++ [c]) ++ Hier.up l (Hier.sup l c) := by
  rw [h, Hier.up_in hw hc]; simp

set_option maxRecDepth 100000 in
set_option maxHeartbeats 2000000 in
theorem up1 (F : Fence) (n : Nat) (hF : F.fn 106) (hro : F.round = none) (hn : 1 ≤ n) (L B n₀ Bc Bl : Nat) (v : Value) (l : List Cls) (c0 : Int) (J Jx : List Int → World → Prop)
    (hJ : Lets ⟨Bc, 0, none⟩ J)
    (hY : ∀ pre x W, J pre W → YieldAt F (n - 1) Try.prog L #[.int .i64 x] W fun e W' =>
      (e = .returned (.bool true) ∧ J (pre ++ [x]) W' ∧ Below n₀ W W') ∨ (e = .returned (.bool false) ∧ Jx (pre ++ [x]) W'))
    (W : World) (h1 : W.cell? ⟨Bc, 0, none⟩ = some (.int .i64 c0)) (h2 : W.frozen? ⟨Bc, 0, none⟩ = false) (h3 : W.cell? ⟨Bl, 0, none⟩ = some v) (hl : Sl 2 ECls W B v l) (hw : Hier.Wf l)
    (hB1 : B ≤ Bc) (hB2 : B ≤ Bl) (hne : Bl ≠ Bc) (hn1 : Bc < n₀) (hn2 : Bl < n₀) (h0 : J [] W) :
    CallsIn F n Try.prog 106 #[.func (.yield L) #[] #[], .pointer (some ⟨Bc, 0, none⟩), .pointer (some ⟨Bl, 0, none⟩)] W fun e W' => (∃ v, e = .returned v) ∧
      ((∃ ys, ys = Hier.up l c0 ∧ J ys W') ∨ (∃ pre, pre <+: Hier.up l c0 ∧ Jx pre W')) := by
  obtain ⟨a, cap, rfl, hlc, hcc, hel⟩ := hl
  refine callsIn_of_wp Try.func106 rfl hF ?_ hro
  simp only [Try.ntmps106, List.size_toArray, List.length_cons, List.length_nil, Nat.reduceAdd, Nat.reduceSub, Array.replicate_succ, Array.replicate_zero, List.push_toArray, List.append_toArray, List.nil_append, List.cons_append]
  gi_wp2
  gi_loopw [] (fun wr => ∃ (pre : List Int) (c : Int), Hid (Hier.up l c0 = pre ++ Hier.up l c) ∧ J pre wr ∧ wr.cell? ⟨Bc, 0, none⟩ = some (.int .i64 c) ∧ wr.frozen? ⟨Bc, 0, none⟩ = false ∧ wr.cell? ⟨Bl, 0, none⟩ = some (.slice a l.length cap) ∧ Below B W wr)
    (fun wr => (boxed wr Bc + 1).toNat)
  case atStart => exact ⟨[], c0, rfl, h0, h1, h2, h3, Below.refl _ _⟩
  case round =>
    obtain ⟨pre, c, hup, hj, g1, g2, g3, hbw⟩ := hrel
    by_cases hin : 0 ≤ c ∧ c < l.length
    · obtain ⟨k, rfl⟩ := Int.eq_ofNat_of_zero_le hin.1
      have hk : k < l.length := by omega
      obtain ⟨b, o, rfl, hb, he⟩ := hel k hk
      have hs := hw k hk
      have hup2 := Lib.hid (up_next hw hup.out hin)
      have hsup : Hid (Hier.sup l (k : Int) = (l[k]).sup) := by
        show _ = _
        rw [Hier.sup, Int.toNat_natCast, Hier.at_eq hk]
      rw [Hier.at_eq hk] at hs
      rw [hsup.out] at hup2
      obtain ⟨x, hx⟩ := at_of hk
      rw [hx.out] at he hs hup2
      obtain ⟨e1, _⟩ := he
      obtain ⟨fn, tmps, assign, body, hy, hR⟩ := hY pre k wr hj
      have q1 : (0 : Int) ≤ k := by omega
      have hbw' := Lib.hid hbw
      have g1' := g1
      clear hel hbw
      gi_wp2
      refine hR.mono ?_
      rintro e W3 (⟨rfl, hJ3, hk3⟩ | ⟨rfl, hJx3⟩)
      · have p1 := kept hk3 hn1 g1
        have p2 : W3.frozen? ⟨Bc, 0, none⟩ = false := (hk3.frozen (p := ⟨Bc, 0, none⟩) hn1).trans g2
        have p3 := kept hk3 hn2 g3
        have hb3 : Hid (Below B W W3) := hbw'.out.trans (hk3.mono (by omega))
        have p4 := kept hb3.out hb e1
        clear g2 g3 e1 hy hk3
        have g1'' := Lib.hid g1'
        clear g1 g1'
        gi_wp2
        go_roundw
        case rel =>
          refine ⟨pre ++ [(k : Int)], x.sup, hup2, hJ _ _ _ hJ3, World.cell?_setCell_same' _ _ _ (by rw [p1]; rfl), (World.frozen?_setCell _ _ _ _).trans p2, ?_, hb3.out.setCell (by simp; omega) _⟩
          exact (World.cell?_setCell_other _ _ _ _ (by intro e; injection e with e; exact hne e.symm)).trans p3
        case measure =>
          rw [boxed_eq g1''.out, boxed_eq (World.cell?_setCell_same' W3 ⟨Bc, 0, none⟩ (.int .i64 x.sup) (by rw [p1]; rfl))]
          omega
      · gi_wp2
        go_end0
        exact ⟨⟨_, rfl⟩, .inr ⟨pre ++ [(k : Int)], ⟨_, hup2.out.symm⟩, hJx3⟩⟩
    · have hupe := Lib.hid (Hier.up_out (l := l) hin)
      by_cases hc : c < 0
      · clear hel
        gi_wp2
        refine ⟨fun _ h => (by cases h), ?_⟩
        gi_wp2
        go_end0
        exact ⟨⟨_, rfl⟩, .inl ⟨pre, by rw [hup.out, hupe.out, List.append_nil], hj⟩⟩
      · clear hel
        have q1 : (l.length : Int) ≤ c := by omega
        gi_wp2
        refine ⟨fun _ h => (by cases h), ?_⟩
        gi_wp2
        go_end0
        exact ⟨⟨_, rfl⟩, .inl ⟨pre, by rw [hup.out, hupe.out, List.append_nil], hj⟩⟩

/-- the contract, as the caller's law wants it -/
theorem up1_gives (F : Fence) (n : Nat) (hF : F.fn 106) (hro : F.round = none) (hn : 1 ≤ n) (B n₀ Bc Bl : Nat) (v : Value) (l : List Cls) (c0 : Int) (w : World)
    (h1 : w.cell? ⟨Bc, 0, none⟩ = some (.int .i64 c0)) (h2 : w.frozen? ⟨Bc, 0, none⟩ = false) (h3 : w.cell? ⟨Bl, 0, none⟩ = some v) (hl : Sl 2 ECls w B v l) (hw : Hier.Wf l)
    (hB1 : B ≤ Bc) (hB2 : B ≤ Bl) (hne : Bl ≠ Bc) (hn1 : Bc < n₀) (hn2 : Bl < n₀) :
    Gives F n Try.prog 106 #[.pointer (some ⟨Bc, 0, none⟩), .pointer (some ⟨Bl, 0, none⟩)] (fun x : Int => #[.int .i64 x]) (Below n₀) (fun ys => ys = Hier.up l c0) (fun pre => pre <+: Hier.up l c0) ⟨Bc, 0, none⟩ w :=
  fun L J Jx W hk hJ _ hY h0 => up1 F n hF hro hn L B n₀ Bc Bl v l c0 J Jx hJ hY W (kept hk hn1 h1) ((hk.frozen (p := ⟨Bc, 0, none⟩) hn1).trans h2) (kept hk hn2 h3) (hl.mono mCls (hk.mono (by omega)) (Nat.le_refl _)) hw hB1 hB2 hne hn1 hn2 h0

theorem up_in (F : Fence) (n : Nat) (hF : F.fn 80) (hro : F.round = none) (a : Option Addr) (k cap : Nat) (c : Int) (w : World) :
    CallsIn F n Try.prog 80 #[.slice a k cap, .int .i64 c] w fun e w' => e = .returned (.func (.func 106) #[] #[.pointer (some ⟨w.heap.size + 1, 0, none⟩), .pointer (some ⟨w.heap.size, 0, none⟩)]) ∧
      (w.alloc (.cells #[.slice a k cap] 26)).alloc (.cells #[.int .i64 c] 3) = w' := by
  refine callsIn_of_wp Try.func80 rfl hF ?_ hro
  simp only [Try.ntmps80, List.size_toArray, List.length_cons, List.length_nil, Nat.reduceAdd, Nat.reduceSub, Array.replicate_succ, Array.replicate_zero, List.push_toArray, List.append_toArray, List.nil_append, List.cons_append]
  gi_wp2
  go_ret
  exact ⟨rfl, rfl⟩

theorem cell_new (W : World) (v : Value) (t : TypeId) : (W.alloc (.cells #[v] t)).cell? ⟨W.heap.size, 0, none⟩ = some v ∧ (W.alloc (.cells #[v] t)).frozen? ⟨W.heap.size, 0, none⟩ = false := by
  have h := World.alloc_heap_new W (.cells #[v] t)
  constructor
  · unfold World.cell?
    rw [h]
    rfl
  · unfold World.frozen?
    rw [h]
    rfl
theorem cell_old {W : World} {a : Addr} {v : Value} (o : Obj) (h : W.cell? a = some v) : (W.alloc o).cell? a = some v := cell_kept h (World.grownBy_alloc W o none) (fun r e => by cases e)
theorem frozen_old {W : World} {a : Addr} {v : Value} (o : Obj) (h : W.cell? a = some v) (hf : W.frozen? a = false) : (W.alloc o).frozen? a = false := (frozen_kept h (World.grownBy_alloc W o none) (fun r e => by cases e)).trans hf

set_option maxRecDepth 100000 in
set_option maxHeartbeats 4000000 in
theorem is (v : Value) (l : List Cls) (c d : Int) (w : World) (h : Cs w v l) (hw : Hier.Wf l) : Calls Try.prog 40 #[v, .int .i64 c, .int .i64 d] w fun e w' => e = .returned (.bool (Hier.is l c d)) ∧ Below w.heap.size w w' := by
  have h' := h
  obtain ⟨a, cap, rfl, _, _, _⟩ := h'
  refine (callsIn_wide (n := 4)).1 ?_
  refine callsIn_of_wp_marks Try.func40 rfl trivial ?_ rfl
  simp only [Try.ntmps40, List.size_toArray, List.length_cons, List.length_nil, Nat.reduceAdd, Nat.reduceSub, Array.replicate_succ, Array.replicate_zero, List.push_toArray, List.append_toArray, List.nil_append, List.cons_append]
  gi_wp2_with (refine ⟨trivial, ?_⟩; gi_at_call 80; refine (up_in Fence.wide 3 trivial rfl _ _ _ _ _).mono ?_; rintro e w' ⟨rfl, rfl⟩)
  have c0 := cell_new w (.int .i64 d) 3
  have c1 := cell_new (w.alloc (.cells #[.int .i64 d] 3)) (.bool false) 4
  have c2 := cell_new ((w.alloc (.cells #[.int .i64 d] 3)).alloc (.cells #[.bool false] 4)) (.slice a l.length cap) 26
  have c3 := cell_new (((w.alloc (.cells #[.int .i64 d] 3)).alloc (.cells #[.bool false] 4)).alloc (.cells #[.slice a l.length cap] 26)) (.int .i64 c) 3
  simp only [World.size_alloc] at c1 c2 c3
  have hB0 : Below w.heap.size w ((((w.alloc (.cells #[.int .i64 d] 3)).alloc (.cells #[.bool false] 4)).alloc (.cells #[.slice a l.length cap] 26)).alloc (.cells #[.int .i64 c] 3)) := (by repeat (first | exact Below.refl _ _ | assumption | exact Nat.le_refl _ | refine Below.drew ?_ | refine Below.alloc ?_ (by first | omega | (simp; omega) | simp) _ | refine Below.setCell ?_ (by first | omega | (simp; omega) | simp) _))
  refine range rfl (by omega) (gf := 106) (lb := #[.pointer (some ⟨w.heap.size + 1 + 1 + 1, 0, none⟩), .pointer (some ⟨w.heap.size + 1 + 1, 0, none⟩)]) rfl trivial (enters_of Try.func106 (by kernel_rfl) rfl)
    (up1_gives Fence.wide 3 trivial rfl (by omega) w.heap.size (w.heap.size + 4) (w.heap.size + 1 + 1 + 1) (w.heap.size + 1 + 1) _ l c _ c3.1 c3.2 (cell_old _ c2.1) (h.mono mCls hB0 (Nat.le_refl _)) hw (by omega) (by omega) (by omega) (by omega) (by omega))
    belowK_t (Below.refl _ _) (fun W o hW => hW.alloc (by have := hW.size; simp at this; omega) _) (belowK_b (by simp)) (fun _ => rfl)
    (fun pre W => ((∀ y ∈ pre, y ≠ d) ∧ W.cell? ⟨w.heap.size, 0, none⟩ = some (.int .i64 d) ∧ W.cell? ⟨w.heap.size + 1, 0, none⟩ = some (.bool false) ∧ W.frozen? ⟨w.heap.size + 1, 0, none⟩ = false) ∧ Below w.heap.size w W)
    (fun e pre W => (e = .ret ∧ d ∈ pre ∧ W.cell? ⟨w.heap.size + 1, 0, none⟩ = some (.bool true)) ∧ Below w.heap.size w W)
    (OwnFrom.and (Own.from (fun s A B row hs hg hr => ⟨hs.1, cell_kept hs.2.1 hg hr, cell_kept hs.2.2.1 hg hr, (frozen_kept hs.2.2.1 hg hr).trans hs.2.2.2⟩) _) (ownFrom_below (Nat.le_refl _) (by simp; omega)))
    (fun e => OwnFrom.and (Own.from (fun s A B row hs hg hr => ⟨hs.1, hs.2.1, cell_kept hs.2.2 hg hr⟩) _) (ownFrom_below (Nat.le_refl _) (by simp; omega)))
    (fun s W u hs => ⟨⟨hs.1.1, (World.cell?_setCell_other _ _ _ _ (by intro e; injection e with e; omega)).trans hs.1.2.1, (World.cell?_setCell_other _ _ _ _ (by intro e; injection e with e; omega)).trans hs.1.2.2.1, (World.frozen?_setCell _ _ _ _).trans hs.1.2.2.2⟩, hs.2.setCell (by simp; omega) _⟩)
    (fun e s W u hs => ⟨⟨hs.1.1, hs.1.2.1, (World.cell?_setCell_other _ _ _ _ (by intro e; injection e with e; omega)).trans hs.1.2.2⟩, hs.2.setCell (by simp; omega) _⟩)
    ⟨⟨by simp, cell_old _ (cell_old _ (cell_old _ c0.1)), cell_old _ (cell_old _ c1.1), frozen_old _ (cell_old _ c1.1) (frozen_old _ c1.1 c1.2)⟩, hB0⟩
    (fun x => { tmps := #[.slice a l.length cap, .int .i64 c, .int .i64 d, undef, undef, .pointer (some ⟨w.heap.size, 0, none⟩), .pointer (some ⟨w.heap.size + 1, 0, none⟩), .int .i64 x, .slice a l.length cap, .int .i64 c, .func (.func 106) #[] #[.pointer (some ⟨w.heap.size + 1 + 1 + 1, 0, none⟩), .pointer (some ⟨w.heap.size + 1 + 1, 0, none⟩)], .int .i64 x, undef, undef, undef], defers := [] }) ?assign ?body ?done ?stop
  case assign =>
    intro L x W K hK
    gi_wp2
    exact hK
  case body =>
    rintro L pre x W ⟨⟨hp, hcw, hcr, hfr⟩, hB⟩
    gi_wp2
    · rename_i hx
      obtain rfl : x = d := eq_of_beq hx
      exact ⟨KeepsOthers.setCell _ _ _, ⟨rfl, List.mem_append.2 (.inr (by simp)), World.cell?_setCell_same' _ _ _ (by rw [hcr]; rfl)⟩, hB.setCell (p := ⟨w.heap.size + 1, 0, none⟩) (by simp) _⟩
    · rename_i hx
      exact ⟨KeepsOthers.refl _, Below.refl _ _, ⟨fun y hy => (List.mem_append.1 hy).elim (hp y) (fun e e' => by simp at e; subst e; subst e'; simp at hx), hcw, hcr, hfr⟩, hB⟩
  case done =>
    rintro D ys W hD rfl ⟨⟨hne, _, hcr, hfr⟩, hB⟩ hK
    gi_wp2
    have hK' := (KeepsOthers.setCell W ⟨w.heap.size + 1, 0, none⟩ (.bool false)).same D _ hK rfl
    refine ⟨by simp, .inl ⟨_, _, rfl, run_takeDeferred hK', ?_⟩⟩
    have hc5 := cell_kept (World.cell?_setCell_same' W ⟨w.heap.size + 1, 0, none⟩ (.bool false) (by rw [hcr]; rfl)) (grownBy_putObj' _ D (.deferred none)) (fun r e => by cases e; exact ⟨_, hK', rfl⟩)
    have hno : Hier.is l c d = false := by
      unfold Hier.is
      rw [Bool.eq_false_iff]
      intro hc
      exact hne d (by simpa using hc) rfl
    refine ⟨.bool false, ?_, by rw [hno], (hB.setCell (p := ⟨w.heap.size + 1, 0, none⟩) (by simp) _).trans (belowK_b (w := w) (Nat.le_refl _) _ D _ _ (by simp at hD; omega) hK' rfl rfl)⟩
    simp [results, Try.f40, go_sem, hc5]
  case stop =>
    rintro D e pre W hD hpre ⟨⟨rfl, hin, hcr⟩, hB⟩ hK
    gi_wp2
    refine ⟨by simp, .inl ⟨_, _, rfl, run_takeDeferred hK, ?_⟩⟩
    have hc5 := cell_kept hcr (grownBy_putObj' _ D (.deferred none)) (fun r e => by cases e; exact ⟨_, hK, rfl⟩)
    have hyes : Hier.is l c d = true := by
      unfold Hier.is
      simpa using hpre.subset hin
    refine ⟨.bool true, ?_, by rw [hyes], hB.trans (belowK_b (w := w) (Nat.le_refl _) W D _ _ (by simp at hD; omega) hK rfl rfl)⟩
    simp [results, Try.f40, go_sem, hc5]

theorem lt_cell {W : World} {b o : Nat} {v : Value} (h : W.cell? ⟨b, o, none⟩ = some v) : b < W.heap.size := by
  obtain ⟨x, hx, _⟩ := cells_of_cell h
  exact (Array.getElem?_eq_some_iff.1 hx).1
theorem keeps_below {W W' : World} (h : Below W.heap.size W W') : KeepsOthers W W' := by
  refine ⟨h.size, fun k o hk _ => ?_⟩
  rw [h.block k (Array.getElem?_eq_some_iff.1 hk).1]; exact hk

theorem find_none {l : List Cls} {c d : Int} (h : ∀ y ∈ Hier.up l c, Hier.is l d y = false) : Hier.meet l c d = -1 := by
  have : (Hier.up l c).find? (fun x => Hier.is l d x) = none := by
    rw [List.find?_eq_none]; intro y hy; rw [h y hy]; simp
  rw [Hier.meet, this]; rfl
theorem find_some {l : List Cls} {c d x : Int} {pre : List Int} (hp : pre ++ [x] <+: Hier.up l c) (h : ∀ y ∈ pre, Hier.is l d y = false) (hx : Hier.is l d x = true) : Hier.meet l c d = x := by
  obtain ⟨t, ht⟩ := hp
  have h0 : pre.find? (fun x => Hier.is l d x) = none := by
    rw [List.find?_eq_none]; intro y hy; rw [h y hy]; simp
  rw [Hier.meet, ← ht, List.append_assoc, List.find?_append, h0]
  simp [hx]

set_option maxRecDepth 100000 in
set_option maxHeartbeats 4000000 in
theorem meet (v : Value) (l : List Cls) (c d : Int) (w : World) (h : Cs w v l) (hw : Hier.Wf l) : Calls Try.prog 41 #[v, .int .i64 c, .int .i64 d] w fun e w' => e = .returned (.int .i64 (Hier.meet l c d)) ∧ Below w.heap.size w w' := by
  have h' := h
  obtain ⟨a, cap, rfl, _, _, _⟩ := h'
  refine (callsIn_wide (n := 4)).1 ?_
  refine callsIn_of_wp_marks Try.func41 rfl trivial ?_ rfl
  simp only [Try.ntmps41, List.size_toArray, List.length_cons, List.length_nil, Nat.reduceAdd, Nat.reduceSub, Array.replicate_succ, Array.replicate_zero, List.push_toArray, List.append_toArray, List.nil_append, List.cons_append]
  gi_wp2_with (refine ⟨trivial, ?_⟩; gi_at_call 80; refine (up_in Fence.wide 3 trivial rfl _ _ _ _ _).mono ?_; rintro e w' ⟨rfl, rfl⟩)
  have c0 := cell_new w (.slice a l.length cap) 26
  have c1 := cell_new (w.alloc (.cells #[.slice a l.length cap] 26)) (.int .i64 d) 3
  have c2 := cell_new ((w.alloc (.cells #[.slice a l.length cap] 26)).alloc (.cells #[.int .i64 d] 3)) (.int .i64 0) 3
  have c3 := cell_new (((w.alloc (.cells #[.slice a l.length cap] 26)).alloc (.cells #[.int .i64 d] 3)).alloc (.cells #[.int .i64 0] 3)) (.slice a l.length cap) 26
  have c4 := cell_new ((((w.alloc (.cells #[.slice a l.length cap] 26)).alloc (.cells #[.int .i64 d] 3)).alloc (.cells #[.int .i64 0] 3)).alloc (.cells #[.slice a l.length cap] 26)) (.int .i64 c) 3
  simp only [World.size_alloc] at c1 c2 c3 c4
  have hB0 : Below w.heap.size w (((((w.alloc (.cells #[.slice a l.length cap] 26)).alloc (.cells #[.int .i64 d] 3)).alloc (.cells #[.int .i64 0] 3)).alloc (.cells #[.slice a l.length cap] 26)).alloc (.cells #[.int .i64 c] 3)) := (by repeat (first | exact Below.refl _ _ | assumption | exact Nat.le_refl _ | refine Below.drew ?_ | refine Below.alloc ?_ (by first | omega | (simp; omega) | simp) _ | refine Below.setCell ?_ (by first | omega | (simp; omega) | simp) _))
  refine range rfl (by omega) (gf := 106) (lb := #[.pointer (some ⟨w.heap.size + 1 + 1 + 1 + 1, 0, none⟩), .pointer (some ⟨w.heap.size + 1 + 1 + 1, 0, none⟩)]) rfl trivial (enters_of Try.func106 (by kernel_rfl) rfl)
    (up1_gives Fence.wide 3 trivial rfl (by omega) w.heap.size (w.heap.size + 5) (w.heap.size + 1 + 1 + 1 + 1) (w.heap.size + 1 + 1 + 1) _ l c _ c4.1 c4.2 (cell_old _ c3.1) (h.mono mCls hB0 (Nat.le_refl _)) hw (by omega) (by omega) (by omega) (by omega) (by omega))
    belowK_t (Below.refl _ _) (fun W o hW => hW.alloc (by have := hW.size; simp at this; omega) _) (belowK_b (by simp)) (fun _ => rfl)
    (fun pre W => ((∀ y ∈ pre, Hier.is l d y = false) ∧ W.cell? ⟨w.heap.size, 0, none⟩ = some (.slice a l.length cap) ∧ W.cell? ⟨w.heap.size + 1, 0, none⟩ = some (.int .i64 d) ∧ W.cell? ⟨w.heap.size + 1 + 1, 0, none⟩ = some (.int .i64 0) ∧ W.frozen? ⟨w.heap.size + 1 + 1, 0, none⟩ = false ∧ w.heap.size + 5 ≤ W.heap.size) ∧ Below w.heap.size w W)
    (fun e pre W => (e = .ret ∧ ∃ pre0 x, pre = pre0 ++ [x] ∧ (∀ y ∈ pre0, Hier.is l d y = false) ∧ Hier.is l d x = true ∧ W.cell? ⟨w.heap.size + 1 + 1, 0, none⟩ = some (.int .i64 x)) ∧ Below w.heap.size w W)
    (OwnFrom.and (Own.from (fun s A B row hs hg hr => ⟨hs.1, cell_kept hs.2.1 hg hr, cell_kept hs.2.2.1 hg hr, cell_kept hs.2.2.2.1 hg hr, (frozen_kept hs.2.2.2.1 hg hr).trans hs.2.2.2.2.1, Nat.le_trans hs.2.2.2.2.2 hg.size⟩) _) (ownFrom_below (Nat.le_refl _) (by simp; omega)))
    (fun e => OwnFrom.and (Own.from (fun s A B row hs hg hr => by
      obtain ⟨h1, pre0, x, h2, h3, h4, h5⟩ := hs
      exact ⟨h1, pre0, x, h2, h3, h4, cell_kept h5 hg hr⟩) _) (ownFrom_below (Nat.le_refl _) (by simp; omega)))
    (fun s W u hs => ⟨⟨hs.1.1, (World.cell?_setCell_other _ _ _ _ (by intro e; injection e with e; omega)).trans hs.1.2.1, (World.cell?_setCell_other _ _ _ _ (by intro e; injection e with e; omega)).trans hs.1.2.2.1, (World.cell?_setCell_other _ _ _ _ (by intro e; injection e with e; omega)).trans hs.1.2.2.2.1, (World.frozen?_setCell _ _ _ _).trans hs.1.2.2.2.2.1, by have := hs.1.2.2.2.2.2; simpa [World.setCell] using this⟩, hs.2.setCell (by simp; omega) _⟩)
    (fun e s W u hs => by
      obtain ⟨⟨h1, pre0, x, h2, h3, h4, h5⟩, h6⟩ := hs
      exact ⟨⟨h1, pre0, x, h2, h3, h4, (World.cell?_setCell_other _ _ _ _ (by intro e; injection e with e; omega)).trans h5⟩, h6.setCell (by simp; omega) _⟩)
    ⟨⟨by simp, cell_old _ (cell_old _ (cell_old _ (cell_old _ c0.1))), cell_old _ (cell_old _ (cell_old _ c1.1)), cell_old _ (cell_old _ c2.1), frozen_old _ (cell_old _ c2.1) (frozen_old _ c2.1 c2.2), by simp⟩, hB0⟩
    (fun x => { tmps := #[.slice a l.length cap, .int .i64 c, .int .i64 d, .pointer (some ⟨w.heap.size, 0, none⟩), undef, .pointer (some ⟨w.heap.size + 1, 0, none⟩), .pointer (some ⟨w.heap.size + 1 + 1, 0, none⟩), .int .i64 x, .slice a l.length cap, .int .i64 c, .func (.func 106) #[] #[.pointer (some ⟨w.heap.size + 1 + 1 + 1 + 1, 0, none⟩), .pointer (some ⟨w.heap.size + 1 + 1 + 1, 0, none⟩)], .int .i64 x, undef, undef, undef, undef, undef], defers := [] }) ?assign ?body ?done ?stop
  case assign =>
    intro L x W K hK
    gi_wp2
    exact hK
  case body =>
    rintro L pre x W ⟨⟨hp, hcl, hcd, hcr, hfr, hsz⟩, hB⟩
    have hCs : Cs W (.slice a l.length cap) l := Sl.mono mCls h hB hB.size
    have hq : w.heap.size + 1 + 1 < W.heap.size := lt_cell hcr
    obtain ⟨tb, htb⟩ : ∃ tb, Hid (Hier.is l d x = tb) := ⟨_, rfl⟩
    cases tb
    · gi_wp2_with (refine ⟨trivial, ?_⟩; gi_at_call 40; refine (CallsIn.inRound L (callsIn_wide.2 (is _ l d x _ hCs hw))).mono ?_; rw [htb.out]; rintro e w1 ⟨rfl, hb1⟩)
      refine ⟨keeps_below hb1, hb1.mono (by omega), ⟨fun y hy => (List.mem_append.1 hy).elim (hp y) (fun e => by simp at e; subst e; exact htb.out), kept hb1 (by omega) hcl, kept hb1 (by omega) hcd, kept hb1 (by omega) hcr, (hb1.frozen (p := ⟨w.heap.size + 1 + 1, 0, none⟩) (by simp; omega)).trans hfr, Nat.le_trans hsz hb1.size⟩, hB.trans (hb1.mono (by omega))⟩
    · gi_wp2_with (refine ⟨trivial, ?_⟩; gi_at_call 40; refine (CallsIn.inRound L (callsIn_wide.2 (is _ l d x _ hCs hw))).mono ?_; rw [htb.out]; rintro e w1 ⟨rfl, hb1⟩; have k1 := kept hb1 hq hcr; have k2 := (hb1.frozen (p := ⟨w.heap.size + 1 + 1, 0, none⟩) hq).trans hfr)
      exact ⟨(keeps_below hb1).trans (KeepsOthers.setCell _ _ _), ⟨rfl, pre, x, rfl, hp, htb.out, World.cell?_setCell_same' _ _ _ (by rw [k1]; rfl)⟩, (hB.trans (hb1.mono (by omega))).setCell (p := ⟨w.heap.size + 1 + 1, 0, none⟩) (by simp; omega) _⟩
  case done =>
    rintro D ys W hD rfl ⟨⟨hne, _, _, hcr, hfr, _⟩, hB⟩ hK
    gi_wp2
    have hK' := (KeepsOthers.setCell W ⟨w.heap.size + 1 + 1, 0, none⟩ (.int .i64 (-1))).same D _ hK rfl
    refine ⟨by simp, .inl ⟨_, _, rfl, run_takeDeferred hK', ?_⟩⟩
    have hc5 := cell_kept (World.cell?_setCell_same' W ⟨w.heap.size + 1 + 1, 0, none⟩ (.int .i64 (-1)) (by rw [hcr]; rfl)) (grownBy_putObj' _ D (.deferred none)) (fun r e => by cases e; exact ⟨_, hK', rfl⟩)
    refine ⟨.int .i64 (-1), ?_, by rw [find_none hne], (hB.setCell (p := ⟨w.heap.size + 1 + 1, 0, none⟩) (by simp; omega) _).trans (belowK_b (w := w) (Nat.le_refl _) _ D _ _ (by simp at hD; omega) hK' rfl rfl)⟩
    simp [results, Try.f41, go_sem, hc5]
  case stop =>
    rintro D e pre W hD hpre ⟨⟨rfl, pre0, x, rfl, hp, hx, hcr⟩, hB⟩ hK
    gi_wp2
    refine ⟨by simp, .inl ⟨_, _, rfl, run_takeDeferred hK, ?_⟩⟩
    have hc5 := cell_kept hcr (grownBy_putObj' _ D (.deferred none)) (fun r e => by cases e; exact ⟨_, hK, rfl⟩)
    refine ⟨.int .i64 x, ?_, by rw [find_some hpre hp hx], hB.trans (belowK_b (w := w) (Nat.le_refl _) W D _ _ (by simp at hD; omega) hK rfl rfl)⟩
    simp [results, Try.f41, go_sem, hc5]
end UpW
end Go.Proofs.Ytncmhenfgbcihaa
