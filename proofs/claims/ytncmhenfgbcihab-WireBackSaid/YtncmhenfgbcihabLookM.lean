/- The walk through (*looker).more, an operation each: those without a region that draws its order. -/
import Derived.Test.YtncmhenfgbcihabLookI
namespace Go.Proofs.Ytncmhenfgbcihab
open Go.RowKit
set_option linter.unusedSimpArgs false
set_option linter.unusedVariables false
namespace Look
open Num Rd D HierW FormW

/-- what 'more' hands back: a number that must be 0, and what was so -/
def Got (w : World) (lb : Nat) (vc vm vp vcd vh : Value) (m : Me) (X : Bool) (e : Ending) (w' : World) : Prop :=
  ∃ (v : Int) (q : Bool), e = .returned (.int .i64 v) ∧ After w lb vc vm vp vcd vh m q w' ∧ (q && decide (v = 0)) = X
theorem got_eq {w w' : World} {lb : Nat} {vc vm vp vcd vh : Value} {m : Me} {q X : Bool} {v : Int} (h : Lk w' lb vc vm vp vcd vh m q) (hT : Keep w.heap.size lb w w') (e : (q && decide (v = 0)) = X) : Got w lb vc vm vp vcd vh m X (.returned (.int .i64 v)) w' := ⟨v, q, rfl, ⟨h, hT⟩, e⟩
def moreX (f : Fi) (m : Me) (ok : Bool) (i : Ins) : Bool := ok && (Rform.body f.classes f.methods m.code.length m.regs m.ret.kind i && Rform.num i)
set_option maxRecDepth 100000 in
set_option maxHeartbeats 4000000 in
theorem more13 (f : Fi) (m : Me) (a b c n : Int) (args : List Int) (ok : Bool) (lb : Nat) (ca : Option Addr) (ccap : Nat) (vm vp : Value) (da : Option Addr) (dcap : Nat) (vh : Value) (aa : Option Addr) (acap : Nat) (w : World)
    (h : Lk w lb (.slice ca f.classes.length ccap) vm vp (.slice da m.code.length dcap) vh m ok) (hF : Fit f m f.classes.length ccap dcap) (oks : Ok a ∧ Ok b ∧ Ok c ∧ Ok n) (ha : args.length ≤ acap ∧ acap ≤ 9223372036854775807) :
    Calls Try.prog 165 #[.pointer (some ⟨lb, 0, none⟩), .agg #[.int .i64 13, .int .i64 a, .int .i64 b, .int .i64 c, .int .i64 n, .slice aa args.length acap]] w
      (Got w lb (.slice ca f.classes.length ccap) vm vp (.slice da m.code.length dcap) vh m (moreX f m ok ⟨13, a, b, c, n, args⟩)) := by
  obtain ⟨hc1, hc2, hd1, hd2, hr⟩ := hF
  obtain ⟨oa, ob, oc, on⟩ := oks
  obtain ⟨ha1, ha2⟩ := ha
  obtain ⟨hr1, hr2⟩ := hr
  have hr : 0 ≤ m.regs ∧ m.regs ≤ 90 := ⟨hr1, hr2⟩
  have hlt := h.lt
  have hne : w.heap.size ≠ lb := by omega
  have hL := Lib.hid (h.next (Below.alloc (Below.refl _ _) (Nat.le_refl _) (.cells #[.int .i64 13, .int .i64 a, .int .i64 b, .int .i64 c, .int .i64 n, .slice aa args.length acap] 63)) h.lt)
  have hT : Keep w.heap.size lb w (w.alloc (.cells #[.int .i64 13, .int .i64 a, .int .i64 b, .int .i64 c, .int .i64 n, .slice aa args.length acap] 63)) := Keep.alloc (Keep.refl _ _ _) (Nat.le_refl _) _
  have hTs := hT.size
  have hbl := hL.out.lt
  have x0 : (w.alloc (.cells #[.int .i64 13, .int .i64 a, .int .i64 b, .int .i64 c, .int .i64 n, .slice aa args.length acap] 63)).cell? ⟨w.heap.size, 0, none⟩ = some (.int .i64 13) := by go_simp
  have x1 : (w.alloc (.cells #[.int .i64 13, .int .i64 a, .int .i64 b, .int .i64 c, .int .i64 n, .slice aa args.length acap] 63)).cell? ⟨w.heap.size, 1, none⟩ = some (.int .i64 a) := by go_simp
  have x2 : (w.alloc (.cells #[.int .i64 13, .int .i64 a, .int .i64 b, .int .i64 c, .int .i64 n, .slice aa args.length acap] 63)).cell? ⟨w.heap.size, 2, none⟩ = some (.int .i64 b) := by go_simp
  have x3 : (w.alloc (.cells #[.int .i64 13, .int .i64 a, .int .i64 b, .int .i64 c, .int .i64 n, .slice aa args.length acap] 63)).cell? ⟨w.heap.size, 3, none⟩ = some (.int .i64 c) := by go_simp
  have x4 : (w.alloc (.cells #[.int .i64 13, .int .i64 a, .int .i64 b, .int .i64 c, .int .i64 n, .slice aa args.length acap] 63)).cell? ⟨w.heap.size, 4, none⟩ = some (.int .i64 n) := by go_simp
  have x5 : (w.alloc (.cells #[.int .i64 13, .int .i64 a, .int .i64 b, .int .i64 c, .int .i64 n, .slice aa args.length acap] 63)).cell? ⟨w.heap.size, 5, none⟩ = some (.slice aa args.length acap) := by go_simp
  clear h
  go_enter Try.func165, Try.ntmps165
  go_wp2_with (first
      | (go_at_call 161; (first | (with_reducible refine (mustA (by first | rfl | simp) hL.out).mono ?_)); rintro e w1 ⟨rfl, hA, hK⟩; replace hL := Lib.hid hA; clear hA; replace hT := hT.trans (hK.mono hTs); replace hTs := Nat.le_trans hTs hK.size; replace x0 := hK.cell (lt_cell x0) hne x0; replace x1 := hK.cell (lt_cell x1) hne x1; replace x2 := hK.cell (lt_cell x2) hne x2; replace x3 := hK.cell (lt_cell x3) hne x3; replace x4 := hK.cell (lt_cell x4) hne x4; replace x5 := hK.cell (lt_cell x5) hne x5; replace hbl := hL.out.lt; clear hK)
      | (go_at_call 162; (first | (with_reducible refine (reg1A (by first | rfl | simp) hL.out (by first | with_reducible assumption | (unfold Ok; omega)) hr).mono ?_) | (with_reducible refine (reg2A (by first | rfl | simp) hL.out (by first | with_reducible assumption | (unfold Ok; omega)) hr).mono ?_) | (with_reducible refine (reg3A (by first | rfl | simp) hL.out (by first | with_reducible assumption | (unfold Ok; omega)) hr).mono ?_)); rintro e w1 ⟨rfl, hA, hK⟩; replace hL := Lib.hid hA; clear hA; replace hT := hT.trans (hK.mono hTs); replace hTs := Nat.le_trans hTs hK.size; replace x0 := hK.cell (lt_cell x0) hne x0; replace x1 := hK.cell (lt_cell x1) hne x1; replace x2 := hK.cell (lt_cell x2) hne x2; replace x3 := hK.cell (lt_cell x3) hne x3; replace x4 := hK.cell (lt_cell x4) hne x4; replace x5 := hK.cell (lt_cell x5) hne x5; replace hbl := hL.out.lt; clear hK)
      | (go_at_call 163; (first | (with_reducible refine (nought1A (by first | rfl | simp) hL.out).mono ?_) | (with_reducible refine (nought2A (by first | rfl | simp) hL.out).mono ?_)); rintro e w1 ⟨rfl, hA, hK⟩; replace hL := Lib.hid hA; clear hA; replace hT := hT.trans (hK.mono hTs); replace hTs := Nat.le_trans hTs hK.size; replace x0 := hK.cell (lt_cell x0) hne x0; replace x1 := hK.cell (lt_cell x1) hne x1; replace x2 := hK.cell (lt_cell x2) hne x2; replace x3 := hK.cell (lt_cell x3) hne x3; replace x4 := hK.cell (lt_cell x4) hne x4; replace x5 := hK.cell (lt_cell x5) hne x5; replace hbl := hL.out.lt; clear hK)
      | (go_at_call 164; (first | (with_reducible refine (atA hL.out hd1 hd2).mono ?_)); rintro e w1 ⟨rfl, hA, hK⟩; replace hL := Lib.hid hA; clear hA; replace hT := hT.trans (hK.mono hTs); replace hTs := Nat.le_trans hTs hK.size; replace x0 := hK.cell (lt_cell x0) hne x0; replace x1 := hK.cell (lt_cell x1) hne x1; replace x2 := hK.cell (lt_cell x2) hne x2; replace x3 := hK.cell (lt_cell x3) hne x3; replace x4 := hK.cell (lt_cell x4) hne x4; replace x5 := hK.cell (lt_cell x5) hne x5; replace hbl := hL.out.lt; clear hK)
      | (go_at_call 206; (first | (with_reducible refine (clsA hL.out hc1 hc2).mono ?_)); rintro e w1 ⟨rfl, hA, hK⟩; replace hL := Lib.hid hA; clear hA; replace hT := hT.trans (hK.mono hTs); replace hTs := Nat.le_trans hTs hK.size; replace x0 := hK.cell (lt_cell x0) hne x0; replace x1 := hK.cell (lt_cell x1) hne x1; replace x2 := hK.cell (lt_cell x2) hne x2; replace x3 := hK.cell (lt_cell x3) hne x3; replace x4 := hK.cell (lt_cell x4) hne x4; replace x5 := hK.cell (lt_cell x5) hne x5; replace hbl := hL.out.lt; clear hK)
      | (go_at_call 110; refine (lin _ _ _ _).mono ?_; rintro e w1 ⟨rfl, rfl⟩))
  all_goals
    go_ret
    refine got_eq hL.out hT ?_
    go_tidy
    simp only [moreX, Rform.body, Rform.num, Form.rng]
    simp
    first
      | done
      | ac_rfl
      | (rw [Bool.eq_iff_iff]; simp only [Bool.and_eq_true, decide_eq_true_eq]; (try simp only [Rform.reg, Form.rng, decide_eq_true_eq]); omega)
      | grind
set_option maxRecDepth 100000 in
set_option maxHeartbeats 4000000 in
theorem more16 (f : Fi) (m : Me) (a b c n : Int) (args : List Int) (ok : Bool) (lb : Nat) (ca : Option Addr) (ccap : Nat) (vm vp : Value) (da : Option Addr) (dcap : Nat) (vh : Value) (aa : Option Addr) (acap : Nat) (w : World)
    (h : Lk w lb (.slice ca f.classes.length ccap) vm vp (.slice da m.code.length dcap) vh m ok) (hF : Fit f m f.classes.length ccap dcap) (oks : Ok a ∧ Ok b ∧ Ok c ∧ Ok n) (ha : args.length ≤ acap ∧ acap ≤ 9223372036854775807) :
    Calls Try.prog 165 #[.pointer (some ⟨lb, 0, none⟩), .agg #[.int .i64 16, .int .i64 a, .int .i64 b, .int .i64 c, .int .i64 n, .slice aa args.length acap]] w
      (Got w lb (.slice ca f.classes.length ccap) vm vp (.slice da m.code.length dcap) vh m (moreX f m ok ⟨16, a, b, c, n, args⟩)) := by
  obtain ⟨hc1, hc2, hd1, hd2, hr⟩ := hF
  obtain ⟨oa, ob, oc, on⟩ := oks
  obtain ⟨ha1, ha2⟩ := ha
  obtain ⟨hr1, hr2⟩ := hr
  have hr : 0 ≤ m.regs ∧ m.regs ≤ 90 := ⟨hr1, hr2⟩
  have hlt := h.lt
  have hne : w.heap.size ≠ lb := by omega
  have hL := Lib.hid (h.next (Below.alloc (Below.refl _ _) (Nat.le_refl _) (.cells #[.int .i64 16, .int .i64 a, .int .i64 b, .int .i64 c, .int .i64 n, .slice aa args.length acap] 63)) h.lt)
  have hT : Keep w.heap.size lb w (w.alloc (.cells #[.int .i64 16, .int .i64 a, .int .i64 b, .int .i64 c, .int .i64 n, .slice aa args.length acap] 63)) := Keep.alloc (Keep.refl _ _ _) (Nat.le_refl _) _
  have hTs := hT.size
  have hbl := hL.out.lt
  have x0 : (w.alloc (.cells #[.int .i64 16, .int .i64 a, .int .i64 b, .int .i64 c, .int .i64 n, .slice aa args.length acap] 63)).cell? ⟨w.heap.size, 0, none⟩ = some (.int .i64 16) := by go_simp
  have x1 : (w.alloc (.cells #[.int .i64 16, .int .i64 a, .int .i64 b, .int .i64 c, .int .i64 n, .slice aa args.length acap] 63)).cell? ⟨w.heap.size, 1, none⟩ = some (.int .i64 a) := by go_simp
  have x2 : (w.alloc (.cells #[.int .i64 16, .int .i64 a, .int .i64 b, .int .i64 c, .int .i64 n, .slice aa args.length acap] 63)).cell? ⟨w.heap.size, 2, none⟩ = some (.int .i64 b) := by go_simp
  have x3 : (w.alloc (.cells #[.int .i64 16, .int .i64 a, .int .i64 b, .int .i64 c, .int .i64 n, .slice aa args.length acap] 63)).cell? ⟨w.heap.size, 3, none⟩ = some (.int .i64 c) := by go_simp
  have x4 : (w.alloc (.cells #[.int .i64 16, .int .i64 a, .int .i64 b, .int .i64 c, .int .i64 n, .slice aa args.length acap] 63)).cell? ⟨w.heap.size, 4, none⟩ = some (.int .i64 n) := by go_simp
  have x5 : (w.alloc (.cells #[.int .i64 16, .int .i64 a, .int .i64 b, .int .i64 c, .int .i64 n, .slice aa args.length acap] 63)).cell? ⟨w.heap.size, 5, none⟩ = some (.slice aa args.length acap) := by go_simp
  clear h
  go_enter Try.func165, Try.ntmps165
  go_wp2_with (first
      | (go_at_call 161; (first | (with_reducible refine (mustA (by first | rfl | simp) hL.out).mono ?_)); rintro e w1 ⟨rfl, hA, hK⟩; replace hL := Lib.hid hA; clear hA; replace hT := hT.trans (hK.mono hTs); replace hTs := Nat.le_trans hTs hK.size; replace x0 := hK.cell (lt_cell x0) hne x0; replace x1 := hK.cell (lt_cell x1) hne x1; replace x2 := hK.cell (lt_cell x2) hne x2; replace x3 := hK.cell (lt_cell x3) hne x3; replace x4 := hK.cell (lt_cell x4) hne x4; replace x5 := hK.cell (lt_cell x5) hne x5; replace hbl := hL.out.lt; clear hK)
      | (go_at_call 162; (first | (with_reducible refine (reg1A (by first | rfl | simp) hL.out (by first | with_reducible assumption | (unfold Ok; omega)) hr).mono ?_) | (with_reducible refine (reg2A (by first | rfl | simp) hL.out (by first | with_reducible assumption | (unfold Ok; omega)) hr).mono ?_) | (with_reducible refine (reg3A (by first | rfl | simp) hL.out (by first | with_reducible assumption | (unfold Ok; omega)) hr).mono ?_)); rintro e w1 ⟨rfl, hA, hK⟩; replace hL := Lib.hid hA; clear hA; replace hT := hT.trans (hK.mono hTs); replace hTs := Nat.le_trans hTs hK.size; replace x0 := hK.cell (lt_cell x0) hne x0; replace x1 := hK.cell (lt_cell x1) hne x1; replace x2 := hK.cell (lt_cell x2) hne x2; replace x3 := hK.cell (lt_cell x3) hne x3; replace x4 := hK.cell (lt_cell x4) hne x4; replace x5 := hK.cell (lt_cell x5) hne x5; replace hbl := hL.out.lt; clear hK)
      | (go_at_call 163; (first | (with_reducible refine (nought1A (by first | rfl | simp) hL.out).mono ?_) | (with_reducible refine (nought2A (by first | rfl | simp) hL.out).mono ?_)); rintro e w1 ⟨rfl, hA, hK⟩; replace hL := Lib.hid hA; clear hA; replace hT := hT.trans (hK.mono hTs); replace hTs := Nat.le_trans hTs hK.size; replace x0 := hK.cell (lt_cell x0) hne x0; replace x1 := hK.cell (lt_cell x1) hne x1; replace x2 := hK.cell (lt_cell x2) hne x2; replace x3 := hK.cell (lt_cell x3) hne x3; replace x4 := hK.cell (lt_cell x4) hne x4; replace x5 := hK.cell (lt_cell x5) hne x5; replace hbl := hL.out.lt; clear hK)
      | (go_at_call 164; (first | (with_reducible refine (atA hL.out hd1 hd2).mono ?_)); rintro e w1 ⟨rfl, hA, hK⟩; replace hL := Lib.hid hA; clear hA; replace hT := hT.trans (hK.mono hTs); replace hTs := Nat.le_trans hTs hK.size; replace x0 := hK.cell (lt_cell x0) hne x0; replace x1 := hK.cell (lt_cell x1) hne x1; replace x2 := hK.cell (lt_cell x2) hne x2; replace x3 := hK.cell (lt_cell x3) hne x3; replace x4 := hK.cell (lt_cell x4) hne x4; replace x5 := hK.cell (lt_cell x5) hne x5; replace hbl := hL.out.lt; clear hK)
      | (go_at_call 206; (first | (with_reducible refine (clsA hL.out hc1 hc2).mono ?_)); rintro e w1 ⟨rfl, hA, hK⟩; replace hL := Lib.hid hA; clear hA; replace hT := hT.trans (hK.mono hTs); replace hTs := Nat.le_trans hTs hK.size; replace x0 := hK.cell (lt_cell x0) hne x0; replace x1 := hK.cell (lt_cell x1) hne x1; replace x2 := hK.cell (lt_cell x2) hne x2; replace x3 := hK.cell (lt_cell x3) hne x3; replace x4 := hK.cell (lt_cell x4) hne x4; replace x5 := hK.cell (lt_cell x5) hne x5; replace hbl := hL.out.lt; clear hK)
      | (go_at_call 110; refine (lin _ _ _ _).mono ?_; rintro e w1 ⟨rfl, rfl⟩))
  all_goals
    go_ret
    refine got_eq hL.out hT ?_
    go_tidy
    simp only [moreX, Rform.body, Rform.num, Form.rng]
    simp
    first
      | done
      | ac_rfl
      | (rw [Bool.eq_iff_iff]; simp only [Bool.and_eq_true, decide_eq_true_eq]; (try simp only [Rform.reg, Form.rng, decide_eq_true_eq]); omega)
      | grind
set_option maxRecDepth 100000 in
set_option maxHeartbeats 4000000 in
theorem more17 (f : Fi) (m : Me) (a b c n : Int) (args : List Int) (ok : Bool) (lb : Nat) (ca : Option Addr) (ccap : Nat) (vm vp : Value) (da : Option Addr) (dcap : Nat) (vh : Value) (aa : Option Addr) (acap : Nat) (w : World)
    (h : Lk w lb (.slice ca f.classes.length ccap) vm vp (.slice da m.code.length dcap) vh m ok) (hF : Fit f m f.classes.length ccap dcap) (oks : Ok a ∧ Ok b ∧ Ok c ∧ Ok n) (ha : args.length ≤ acap ∧ acap ≤ 9223372036854775807) :
    Calls Try.prog 165 #[.pointer (some ⟨lb, 0, none⟩), .agg #[.int .i64 17, .int .i64 a, .int .i64 b, .int .i64 c, .int .i64 n, .slice aa args.length acap]] w
      (Got w lb (.slice ca f.classes.length ccap) vm vp (.slice da m.code.length dcap) vh m (moreX f m ok ⟨17, a, b, c, n, args⟩)) := by
  obtain ⟨hc1, hc2, hd1, hd2, hr⟩ := hF
  obtain ⟨oa, ob, oc, on⟩ := oks
  obtain ⟨ha1, ha2⟩ := ha
  obtain ⟨hr1, hr2⟩ := hr
  have hr : 0 ≤ m.regs ∧ m.regs ≤ 90 := ⟨hr1, hr2⟩
  have hlt := h.lt
  have hne : w.heap.size ≠ lb := by omega
  have hL := Lib.hid (h.next (Below.alloc (Below.refl _ _) (Nat.le_refl _) (.cells #[.int .i64 17, .int .i64 a, .int .i64 b, .int .i64 c, .int .i64 n, .slice aa args.length acap] 63)) h.lt)
  have hT : Keep w.heap.size lb w (w.alloc (.cells #[.int .i64 17, .int .i64 a, .int .i64 b, .int .i64 c, .int .i64 n, .slice aa args.length acap] 63)) := Keep.alloc (Keep.refl _ _ _) (Nat.le_refl _) _
  have hTs := hT.size
  have hbl := hL.out.lt
  have x0 : (w.alloc (.cells #[.int .i64 17, .int .i64 a, .int .i64 b, .int .i64 c, .int .i64 n, .slice aa args.length acap] 63)).cell? ⟨w.heap.size, 0, none⟩ = some (.int .i64 17) := by go_simp
  have x1 : (w.alloc (.cells #[.int .i64 17, .int .i64 a, .int .i64 b, .int .i64 c, .int .i64 n, .slice aa args.length acap] 63)).cell? ⟨w.heap.size, 1, none⟩ = some (.int .i64 a) := by go_simp
  have x2 : (w.alloc (.cells #[.int .i64 17, .int .i64 a, .int .i64 b, .int .i64 c, .int .i64 n, .slice aa args.length acap] 63)).cell? ⟨w.heap.size, 2, none⟩ = some (.int .i64 b) := by go_simp
  have x3 : (w.alloc (.cells #[.int .i64 17, .int .i64 a, .int .i64 b, .int .i64 c, .int .i64 n, .slice aa args.length acap] 63)).cell? ⟨w.heap.size, 3, none⟩ = some (.int .i64 c) := by go_simp
  have x4 : (w.alloc (.cells #[.int .i64 17, .int .i64 a, .int .i64 b, .int .i64 c, .int .i64 n, .slice aa args.length acap] 63)).cell? ⟨w.heap.size, 4, none⟩ = some (.int .i64 n) := by go_simp
  have x5 : (w.alloc (.cells #[.int .i64 17, .int .i64 a, .int .i64 b, .int .i64 c, .int .i64 n, .slice aa args.length acap] 63)).cell? ⟨w.heap.size, 5, none⟩ = some (.slice aa args.length acap) := by go_simp
  clear h
  go_enter Try.func165, Try.ntmps165
  go_wp2_with (first
      | (go_at_call 161; (first | (with_reducible refine (mustA (by first | rfl | simp) hL.out).mono ?_)); rintro e w1 ⟨rfl, hA, hK⟩; replace hL := Lib.hid hA; clear hA; replace hT := hT.trans (hK.mono hTs); replace hTs := Nat.le_trans hTs hK.size; replace x0 := hK.cell (lt_cell x0) hne x0; replace x1 := hK.cell (lt_cell x1) hne x1; replace x2 := hK.cell (lt_cell x2) hne x2; replace x3 := hK.cell (lt_cell x3) hne x3; replace x4 := hK.cell (lt_cell x4) hne x4; replace x5 := hK.cell (lt_cell x5) hne x5; replace hbl := hL.out.lt; clear hK)
      | (go_at_call 162; (first | (with_reducible refine (reg1A (by first | rfl | simp) hL.out (by first | with_reducible assumption | (unfold Ok; omega)) hr).mono ?_) | (with_reducible refine (reg2A (by first | rfl | simp) hL.out (by first | with_reducible assumption | (unfold Ok; omega)) hr).mono ?_) | (with_reducible refine (reg3A (by first | rfl | simp) hL.out (by first | with_reducible assumption | (unfold Ok; omega)) hr).mono ?_)); rintro e w1 ⟨rfl, hA, hK⟩; replace hL := Lib.hid hA; clear hA; replace hT := hT.trans (hK.mono hTs); replace hTs := Nat.le_trans hTs hK.size; replace x0 := hK.cell (lt_cell x0) hne x0; replace x1 := hK.cell (lt_cell x1) hne x1; replace x2 := hK.cell (lt_cell x2) hne x2; replace x3 := hK.cell (lt_cell x3) hne x3; replace x4 := hK.cell (lt_cell x4) hne x4; replace x5 := hK.cell (lt_cell x5) hne x5; replace hbl := hL.out.lt; clear hK)
      | (go_at_call 163; (first | (with_reducible refine (nought1A (by first | rfl | simp) hL.out).mono ?_) | (with_reducible refine (nought2A (by first | rfl | simp) hL.out).mono ?_)); rintro e w1 ⟨rfl, hA, hK⟩; replace hL := Lib.hid hA; clear hA; replace hT := hT.trans (hK.mono hTs); replace hTs := Nat.le_trans hTs hK.size; replace x0 := hK.cell (lt_cell x0) hne x0; replace x1 := hK.cell (lt_cell x1) hne x1; replace x2 := hK.cell (lt_cell x2) hne x2; replace x3 := hK.cell (lt_cell x3) hne x3; replace x4 := hK.cell (lt_cell x4) hne x4; replace x5 := hK.cell (lt_cell x5) hne x5; replace hbl := hL.out.lt; clear hK)
      | (go_at_call 164; (first | (with_reducible refine (atA hL.out hd1 hd2).mono ?_)); rintro e w1 ⟨rfl, hA, hK⟩; replace hL := Lib.hid hA; clear hA; replace hT := hT.trans (hK.mono hTs); replace hTs := Nat.le_trans hTs hK.size; replace x0 := hK.cell (lt_cell x0) hne x0; replace x1 := hK.cell (lt_cell x1) hne x1; replace x2 := hK.cell (lt_cell x2) hne x2; replace x3 := hK.cell (lt_cell x3) hne x3; replace x4 := hK.cell (lt_cell x4) hne x4; replace x5 := hK.cell (lt_cell x5) hne x5; replace hbl := hL.out.lt; clear hK)
      | (go_at_call 206; (first | (with_reducible refine (clsA hL.out hc1 hc2).mono ?_)); rintro e w1 ⟨rfl, hA, hK⟩; replace hL := Lib.hid hA; clear hA; replace hT := hT.trans (hK.mono hTs); replace hTs := Nat.le_trans hTs hK.size; replace x0 := hK.cell (lt_cell x0) hne x0; replace x1 := hK.cell (lt_cell x1) hne x1; replace x2 := hK.cell (lt_cell x2) hne x2; replace x3 := hK.cell (lt_cell x3) hne x3; replace x4 := hK.cell (lt_cell x4) hne x4; replace x5 := hK.cell (lt_cell x5) hne x5; replace hbl := hL.out.lt; clear hK)
      | (go_at_call 110; refine (lin _ _ _ _).mono ?_; rintro e w1 ⟨rfl, rfl⟩))
  all_goals
    go_ret
    refine got_eq hL.out hT ?_
    go_tidy
    simp only [moreX, Rform.body, Rform.num, Form.rng]
    simp
    first
      | done
      | ac_rfl
      | (rw [Bool.eq_iff_iff]; simp only [Bool.and_eq_true, decide_eq_true_eq]; (try simp only [Rform.reg, Form.rng, decide_eq_true_eq]); omega)
      | grind
set_option maxRecDepth 100000 in
set_option maxHeartbeats 4000000 in
theorem more19 (f : Fi) (m : Me) (a b c n : Int) (args : List Int) (ok : Bool) (lb : Nat) (ca : Option Addr) (ccap : Nat) (vm vp : Value) (da : Option Addr) (dcap : Nat) (vh : Value) (aa : Option Addr) (acap : Nat) (w : World)
    (h : Lk w lb (.slice ca f.classes.length ccap) vm vp (.slice da m.code.length dcap) vh m ok) (hF : Fit f m f.classes.length ccap dcap) (oks : Ok a ∧ Ok b ∧ Ok c ∧ Ok n) (ha : args.length ≤ acap ∧ acap ≤ 9223372036854775807) :
    Calls Try.prog 165 #[.pointer (some ⟨lb, 0, none⟩), .agg #[.int .i64 19, .int .i64 a, .int .i64 b, .int .i64 c, .int .i64 n, .slice aa args.length acap]] w
      (Got w lb (.slice ca f.classes.length ccap) vm vp (.slice da m.code.length dcap) vh m (moreX f m ok ⟨19, a, b, c, n, args⟩)) := by
  obtain ⟨hc1, hc2, hd1, hd2, hr⟩ := hF
  obtain ⟨oa, ob, oc, on⟩ := oks
  obtain ⟨ha1, ha2⟩ := ha
  obtain ⟨hr1, hr2⟩ := hr
  have hr : 0 ≤ m.regs ∧ m.regs ≤ 90 := ⟨hr1, hr2⟩
  have hlt := h.lt
  have hne : w.heap.size ≠ lb := by omega
  have hL := Lib.hid (h.next (Below.alloc (Below.refl _ _) (Nat.le_refl _) (.cells #[.int .i64 19, .int .i64 a, .int .i64 b, .int .i64 c, .int .i64 n, .slice aa args.length acap] 63)) h.lt)
  have hT : Keep w.heap.size lb w (w.alloc (.cells #[.int .i64 19, .int .i64 a, .int .i64 b, .int .i64 c, .int .i64 n, .slice aa args.length acap] 63)) := Keep.alloc (Keep.refl _ _ _) (Nat.le_refl _) _
  have hTs := hT.size
  have hbl := hL.out.lt
  have x0 : (w.alloc (.cells #[.int .i64 19, .int .i64 a, .int .i64 b, .int .i64 c, .int .i64 n, .slice aa args.length acap] 63)).cell? ⟨w.heap.size, 0, none⟩ = some (.int .i64 19) := by go_simp
  have x1 : (w.alloc (.cells #[.int .i64 19, .int .i64 a, .int .i64 b, .int .i64 c, .int .i64 n, .slice aa args.length acap] 63)).cell? ⟨w.heap.size, 1, none⟩ = some (.int .i64 a) := by go_simp
  have x2 : (w.alloc (.cells #[.int .i64 19, .int .i64 a, .int .i64 b, .int .i64 c, .int .i64 n, .slice aa args.length acap] 63)).cell? ⟨w.heap.size, 2, none⟩ = some (.int .i64 b) := by go_simp
  have x3 : (w.alloc (.cells #[.int .i64 19, .int .i64 a, .int .i64 b, .int .i64 c, .int .i64 n, .slice aa args.length acap] 63)).cell? ⟨w.heap.size, 3, none⟩ = some (.int .i64 c) := by go_simp
  have x4 : (w.alloc (.cells #[.int .i64 19, .int .i64 a, .int .i64 b, .int .i64 c, .int .i64 n, .slice aa args.length acap] 63)).cell? ⟨w.heap.size, 4, none⟩ = some (.int .i64 n) := by go_simp
  have x5 : (w.alloc (.cells #[.int .i64 19, .int .i64 a, .int .i64 b, .int .i64 c, .int .i64 n, .slice aa args.length acap] 63)).cell? ⟨w.heap.size, 5, none⟩ = some (.slice aa args.length acap) := by go_simp
  clear h
  go_enter Try.func165, Try.ntmps165
  go_wp2_with (first
      | (go_at_call 161; (first | (with_reducible refine (mustA (by first | rfl | simp) hL.out).mono ?_)); rintro e w1 ⟨rfl, hA, hK⟩; replace hL := Lib.hid hA; clear hA; replace hT := hT.trans (hK.mono hTs); replace hTs := Nat.le_trans hTs hK.size; replace x0 := hK.cell (lt_cell x0) hne x0; replace x1 := hK.cell (lt_cell x1) hne x1; replace x2 := hK.cell (lt_cell x2) hne x2; replace x3 := hK.cell (lt_cell x3) hne x3; replace x4 := hK.cell (lt_cell x4) hne x4; replace x5 := hK.cell (lt_cell x5) hne x5; replace hbl := hL.out.lt; clear hK)
      | (go_at_call 162; (first | (with_reducible refine (reg1A (by first | rfl | simp) hL.out (by first | with_reducible assumption | (unfold Ok; omega)) hr).mono ?_) | (with_reducible refine (reg2A (by first | rfl | simp) hL.out (by first | with_reducible assumption | (unfold Ok; omega)) hr).mono ?_) | (with_reducible refine (reg3A (by first | rfl | simp) hL.out (by first | with_reducible assumption | (unfold Ok; omega)) hr).mono ?_)); rintro e w1 ⟨rfl, hA, hK⟩; replace hL := Lib.hid hA; clear hA; replace hT := hT.trans (hK.mono hTs); replace hTs := Nat.le_trans hTs hK.size; replace x0 := hK.cell (lt_cell x0) hne x0; replace x1 := hK.cell (lt_cell x1) hne x1; replace x2 := hK.cell (lt_cell x2) hne x2; replace x3 := hK.cell (lt_cell x3) hne x3; replace x4 := hK.cell (lt_cell x4) hne x4; replace x5 := hK.cell (lt_cell x5) hne x5; replace hbl := hL.out.lt; clear hK)
      | (go_at_call 163; (first | (with_reducible refine (nought1A (by first | rfl | simp) hL.out).mono ?_) | (with_reducible refine (nought2A (by first | rfl | simp) hL.out).mono ?_)); rintro e w1 ⟨rfl, hA, hK⟩; replace hL := Lib.hid hA; clear hA; replace hT := hT.trans (hK.mono hTs); replace hTs := Nat.le_trans hTs hK.size; replace x0 := hK.cell (lt_cell x0) hne x0; replace x1 := hK.cell (lt_cell x1) hne x1; replace x2 := hK.cell (lt_cell x2) hne x2; replace x3 := hK.cell (lt_cell x3) hne x3; replace x4 := hK.cell (lt_cell x4) hne x4; replace x5 := hK.cell (lt_cell x5) hne x5; replace hbl := hL.out.lt; clear hK)
      | (go_at_call 164; (first | (with_reducible refine (atA hL.out hd1 hd2).mono ?_)); rintro e w1 ⟨rfl, hA, hK⟩; replace hL := Lib.hid hA; clear hA; replace hT := hT.trans (hK.mono hTs); replace hTs := Nat.le_trans hTs hK.size; replace x0 := hK.cell (lt_cell x0) hne x0; replace x1 := hK.cell (lt_cell x1) hne x1; replace x2 := hK.cell (lt_cell x2) hne x2; replace x3 := hK.cell (lt_cell x3) hne x3; replace x4 := hK.cell (lt_cell x4) hne x4; replace x5 := hK.cell (lt_cell x5) hne x5; replace hbl := hL.out.lt; clear hK)
      | (go_at_call 206; (first | (with_reducible refine (clsA hL.out hc1 hc2).mono ?_)); rintro e w1 ⟨rfl, hA, hK⟩; replace hL := Lib.hid hA; clear hA; replace hT := hT.trans (hK.mono hTs); replace hTs := Nat.le_trans hTs hK.size; replace x0 := hK.cell (lt_cell x0) hne x0; replace x1 := hK.cell (lt_cell x1) hne x1; replace x2 := hK.cell (lt_cell x2) hne x2; replace x3 := hK.cell (lt_cell x3) hne x3; replace x4 := hK.cell (lt_cell x4) hne x4; replace x5 := hK.cell (lt_cell x5) hne x5; replace hbl := hL.out.lt; clear hK)
      | (go_at_call 110; refine (lin _ _ _ _).mono ?_; rintro e w1 ⟨rfl, rfl⟩))
  all_goals
    go_ret
    refine got_eq hL.out hT ?_
    go_tidy
    simp only [moreX, Rform.body, Rform.num, Form.rng]
    simp
    first
      | done
      | ac_rfl
      | (rw [Bool.eq_iff_iff]; simp only [Bool.and_eq_true, decide_eq_true_eq]; (try simp only [Rform.reg, Form.rng, decide_eq_true_eq]); omega)
      | grind
set_option maxRecDepth 100000 in
set_option maxHeartbeats 4000000 in
theorem more23 (f : Fi) (m : Me) (a b c n : Int) (args : List Int) (ok : Bool) (lb : Nat) (ca : Option Addr) (ccap : Nat) (vm vp : Value) (da : Option Addr) (dcap : Nat) (vh : Value) (aa : Option Addr) (acap : Nat) (w : World)
    (h : Lk w lb (.slice ca f.classes.length ccap) vm vp (.slice da m.code.length dcap) vh m ok) (hF : Fit f m f.classes.length ccap dcap) (oks : Ok a ∧ Ok b ∧ Ok c ∧ Ok n) (ha : args.length ≤ acap ∧ acap ≤ 9223372036854775807) :
    Calls Try.prog 165 #[.pointer (some ⟨lb, 0, none⟩), .agg #[.int .i64 23, .int .i64 a, .int .i64 b, .int .i64 c, .int .i64 n, .slice aa args.length acap]] w
      (Got w lb (.slice ca f.classes.length ccap) vm vp (.slice da m.code.length dcap) vh m (moreX f m ok ⟨23, a, b, c, n, args⟩)) := by
  obtain ⟨hc1, hc2, hd1, hd2, hr⟩ := hF
  obtain ⟨oa, ob, oc, on⟩ := oks
  obtain ⟨ha1, ha2⟩ := ha
  obtain ⟨hr1, hr2⟩ := hr
  have hr : 0 ≤ m.regs ∧ m.regs ≤ 90 := ⟨hr1, hr2⟩
  have hlt := h.lt
  have hne : w.heap.size ≠ lb := by omega
  have hL := Lib.hid (h.next (Below.alloc (Below.refl _ _) (Nat.le_refl _) (.cells #[.int .i64 23, .int .i64 a, .int .i64 b, .int .i64 c, .int .i64 n, .slice aa args.length acap] 63)) h.lt)
  have hT : Keep w.heap.size lb w (w.alloc (.cells #[.int .i64 23, .int .i64 a, .int .i64 b, .int .i64 c, .int .i64 n, .slice aa args.length acap] 63)) := Keep.alloc (Keep.refl _ _ _) (Nat.le_refl _) _
  have hTs := hT.size
  have hbl := hL.out.lt
  have x0 : (w.alloc (.cells #[.int .i64 23, .int .i64 a, .int .i64 b, .int .i64 c, .int .i64 n, .slice aa args.length acap] 63)).cell? ⟨w.heap.size, 0, none⟩ = some (.int .i64 23) := by go_simp
  have x1 : (w.alloc (.cells #[.int .i64 23, .int .i64 a, .int .i64 b, .int .i64 c, .int .i64 n, .slice aa args.length acap] 63)).cell? ⟨w.heap.size, 1, none⟩ = some (.int .i64 a) := by go_simp
  have x2 : (w.alloc (.cells #[.int .i64 23, .int .i64 a, .int .i64 b, .int .i64 c, .int .i64 n, .slice aa args.length acap] 63)).cell? ⟨w.heap.size, 2, none⟩ = some (.int .i64 b) := by go_simp
  have x3 : (w.alloc (.cells #[.int .i64 23, .int .i64 a, .int .i64 b, .int .i64 c, .int .i64 n, .slice aa args.length acap] 63)).cell? ⟨w.heap.size, 3, none⟩ = some (.int .i64 c) := by go_simp
  have x4 : (w.alloc (.cells #[.int .i64 23, .int .i64 a, .int .i64 b, .int .i64 c, .int .i64 n, .slice aa args.length acap] 63)).cell? ⟨w.heap.size, 4, none⟩ = some (.int .i64 n) := by go_simp
  have x5 : (w.alloc (.cells #[.int .i64 23, .int .i64 a, .int .i64 b, .int .i64 c, .int .i64 n, .slice aa args.length acap] 63)).cell? ⟨w.heap.size, 5, none⟩ = some (.slice aa args.length acap) := by go_simp
  clear h
  go_enter Try.func165, Try.ntmps165
  go_wp2_with (first
      | (go_at_call 161; (first | (with_reducible refine (mustA (by first | rfl | simp) hL.out).mono ?_)); rintro e w1 ⟨rfl, hA, hK⟩; replace hL := Lib.hid hA; clear hA; replace hT := hT.trans (hK.mono hTs); replace hTs := Nat.le_trans hTs hK.size; replace x0 := hK.cell (lt_cell x0) hne x0; replace x1 := hK.cell (lt_cell x1) hne x1; replace x2 := hK.cell (lt_cell x2) hne x2; replace x3 := hK.cell (lt_cell x3) hne x3; replace x4 := hK.cell (lt_cell x4) hne x4; replace x5 := hK.cell (lt_cell x5) hne x5; replace hbl := hL.out.lt; clear hK)
      | (go_at_call 162; (first | (with_reducible refine (reg1A (by first | rfl | simp) hL.out (by first | with_reducible assumption | (unfold Ok; omega)) hr).mono ?_) | (with_reducible refine (reg2A (by first | rfl | simp) hL.out (by first | with_reducible assumption | (unfold Ok; omega)) hr).mono ?_) | (with_reducible refine (reg3A (by first | rfl | simp) hL.out (by first | with_reducible assumption | (unfold Ok; omega)) hr).mono ?_)); rintro e w1 ⟨rfl, hA, hK⟩; replace hL := Lib.hid hA; clear hA; replace hT := hT.trans (hK.mono hTs); replace hTs := Nat.le_trans hTs hK.size; replace x0 := hK.cell (lt_cell x0) hne x0; replace x1 := hK.cell (lt_cell x1) hne x1; replace x2 := hK.cell (lt_cell x2) hne x2; replace x3 := hK.cell (lt_cell x3) hne x3; replace x4 := hK.cell (lt_cell x4) hne x4; replace x5 := hK.cell (lt_cell x5) hne x5; replace hbl := hL.out.lt; clear hK)
      | (go_at_call 163; (first | (with_reducible refine (nought1A (by first | rfl | simp) hL.out).mono ?_) | (with_reducible refine (nought2A (by first | rfl | simp) hL.out).mono ?_)); rintro e w1 ⟨rfl, hA, hK⟩; replace hL := Lib.hid hA; clear hA; replace hT := hT.trans (hK.mono hTs); replace hTs := Nat.le_trans hTs hK.size; replace x0 := hK.cell (lt_cell x0) hne x0; replace x1 := hK.cell (lt_cell x1) hne x1; replace x2 := hK.cell (lt_cell x2) hne x2; replace x3 := hK.cell (lt_cell x3) hne x3; replace x4 := hK.cell (lt_cell x4) hne x4; replace x5 := hK.cell (lt_cell x5) hne x5; replace hbl := hL.out.lt; clear hK)
      | (go_at_call 164; (first | (with_reducible refine (atA hL.out hd1 hd2).mono ?_)); rintro e w1 ⟨rfl, hA, hK⟩; replace hL := Lib.hid hA; clear hA; replace hT := hT.trans (hK.mono hTs); replace hTs := Nat.le_trans hTs hK.size; replace x0 := hK.cell (lt_cell x0) hne x0; replace x1 := hK.cell (lt_cell x1) hne x1; replace x2 := hK.cell (lt_cell x2) hne x2; replace x3 := hK.cell (lt_cell x3) hne x3; replace x4 := hK.cell (lt_cell x4) hne x4; replace x5 := hK.cell (lt_cell x5) hne x5; replace hbl := hL.out.lt; clear hK)
      | (go_at_call 206; (first | (with_reducible refine (clsA hL.out hc1 hc2).mono ?_)); rintro e w1 ⟨rfl, hA, hK⟩; replace hL := Lib.hid hA; clear hA; replace hT := hT.trans (hK.mono hTs); replace hTs := Nat.le_trans hTs hK.size; replace x0 := hK.cell (lt_cell x0) hne x0; replace x1 := hK.cell (lt_cell x1) hne x1; replace x2 := hK.cell (lt_cell x2) hne x2; replace x3 := hK.cell (lt_cell x3) hne x3; replace x4 := hK.cell (lt_cell x4) hne x4; replace x5 := hK.cell (lt_cell x5) hne x5; replace hbl := hL.out.lt; clear hK)
      | (go_at_call 110; refine (lin _ _ _ _).mono ?_; rintro e w1 ⟨rfl, rfl⟩))
  all_goals
    go_ret
    refine got_eq hL.out hT ?_
    go_tidy
    simp only [moreX, Rform.body, Rform.num, Form.rng]
    simp
    first
      | done
      | ac_rfl
      | (rw [Bool.eq_iff_iff]; simp only [Bool.and_eq_true, decide_eq_true_eq]; (try simp only [Rform.reg, Form.rng, decide_eq_true_eq]); omega)
      | grind
set_option maxRecDepth 100000 in
set_option maxHeartbeats 4000000 in
theorem more24 (f : Fi) (m : Me) (a b c n : Int) (args : List Int) (ok : Bool) (lb : Nat) (ca : Option Addr) (ccap : Nat) (vm vp : Value) (da : Option Addr) (dcap : Nat) (vh : Value) (aa : Option Addr) (acap : Nat) (w : World)
    (h : Lk w lb (.slice ca f.classes.length ccap) vm vp (.slice da m.code.length dcap) vh m ok) (hF : Fit f m f.classes.length ccap dcap) (oks : Ok a ∧ Ok b ∧ Ok c ∧ Ok n) (ha : args.length ≤ acap ∧ acap ≤ 9223372036854775807) :
    Calls Try.prog 165 #[.pointer (some ⟨lb, 0, none⟩), .agg #[.int .i64 24, .int .i64 a, .int .i64 b, .int .i64 c, .int .i64 n, .slice aa args.length acap]] w
      (Got w lb (.slice ca f.classes.length ccap) vm vp (.slice da m.code.length dcap) vh m (moreX f m ok ⟨24, a, b, c, n, args⟩)) := by
  obtain ⟨hc1, hc2, hd1, hd2, hr⟩ := hF
  obtain ⟨oa, ob, oc, on⟩ := oks
  obtain ⟨ha1, ha2⟩ := ha
  obtain ⟨hr1, hr2⟩ := hr
  have hr : 0 ≤ m.regs ∧ m.regs ≤ 90 := ⟨hr1, hr2⟩
  have hlt := h.lt
  have hne : w.heap.size ≠ lb := by omega
  have hL := Lib.hid (h.next (Below.alloc (Below.refl _ _) (Nat.le_refl _) (.cells #[.int .i64 24, .int .i64 a, .int .i64 b, .int .i64 c, .int .i64 n, .slice aa args.length acap] 63)) h.lt)
  have hT : Keep w.heap.size lb w (w.alloc (.cells #[.int .i64 24, .int .i64 a, .int .i64 b, .int .i64 c, .int .i64 n, .slice aa args.length acap] 63)) := Keep.alloc (Keep.refl _ _ _) (Nat.le_refl _) _
  have hTs := hT.size
  have hbl := hL.out.lt
  have x0 : (w.alloc (.cells #[.int .i64 24, .int .i64 a, .int .i64 b, .int .i64 c, .int .i64 n, .slice aa args.length acap] 63)).cell? ⟨w.heap.size, 0, none⟩ = some (.int .i64 24) := by go_simp
  have x1 : (w.alloc (.cells #[.int .i64 24, .int .i64 a, .int .i64 b, .int .i64 c, .int .i64 n, .slice aa args.length acap] 63)).cell? ⟨w.heap.size, 1, none⟩ = some (.int .i64 a) := by go_simp
  have x2 : (w.alloc (.cells #[.int .i64 24, .int .i64 a, .int .i64 b, .int .i64 c, .int .i64 n, .slice aa args.length acap] 63)).cell? ⟨w.heap.size, 2, none⟩ = some (.int .i64 b) := by go_simp
  have x3 : (w.alloc (.cells #[.int .i64 24, .int .i64 a, .int .i64 b, .int .i64 c, .int .i64 n, .slice aa args.length acap] 63)).cell? ⟨w.heap.size, 3, none⟩ = some (.int .i64 c) := by go_simp
  have x4 : (w.alloc (.cells #[.int .i64 24, .int .i64 a, .int .i64 b, .int .i64 c, .int .i64 n, .slice aa args.length acap] 63)).cell? ⟨w.heap.size, 4, none⟩ = some (.int .i64 n) := by go_simp
  have x5 : (w.alloc (.cells #[.int .i64 24, .int .i64 a, .int .i64 b, .int .i64 c, .int .i64 n, .slice aa args.length acap] 63)).cell? ⟨w.heap.size, 5, none⟩ = some (.slice aa args.length acap) := by go_simp
  clear h
  go_enter Try.func165, Try.ntmps165
  go_wp2_with (first
      | (go_at_call 161; (first | (with_reducible refine (mustA (by first | rfl | simp) hL.out).mono ?_)); rintro e w1 ⟨rfl, hA, hK⟩; replace hL := Lib.hid hA; clear hA; replace hT := hT.trans (hK.mono hTs); replace hTs := Nat.le_trans hTs hK.size; replace x0 := hK.cell (lt_cell x0) hne x0; replace x1 := hK.cell (lt_cell x1) hne x1; replace x2 := hK.cell (lt_cell x2) hne x2; replace x3 := hK.cell (lt_cell x3) hne x3; replace x4 := hK.cell (lt_cell x4) hne x4; replace x5 := hK.cell (lt_cell x5) hne x5; replace hbl := hL.out.lt; clear hK)
      | (go_at_call 162; (first | (with_reducible refine (reg1A (by first | rfl | simp) hL.out (by first | with_reducible assumption | (unfold Ok; omega)) hr).mono ?_) | (with_reducible refine (reg2A (by first | rfl | simp) hL.out (by first | with_reducible assumption | (unfold Ok; omega)) hr).mono ?_) | (with_reducible refine (reg3A (by first | rfl | simp) hL.out (by first | with_reducible assumption | (unfold Ok; omega)) hr).mono ?_)); rintro e w1 ⟨rfl, hA, hK⟩; replace hL := Lib.hid hA; clear hA; replace hT := hT.trans (hK.mono hTs); replace hTs := Nat.le_trans hTs hK.size; replace x0 := hK.cell (lt_cell x0) hne x0; replace x1 := hK.cell (lt_cell x1) hne x1; replace x2 := hK.cell (lt_cell x2) hne x2; replace x3 := hK.cell (lt_cell x3) hne x3; replace x4 := hK.cell (lt_cell x4) hne x4; replace x5 := hK.cell (lt_cell x5) hne x5; replace hbl := hL.out.lt; clear hK)
      | (go_at_call 163; (first | (with_reducible refine (nought1A (by first | rfl | simp) hL.out).mono ?_) | (with_reducible refine (nought2A (by first | rfl | simp) hL.out).mono ?_)); rintro e w1 ⟨rfl, hA, hK⟩; replace hL := Lib.hid hA; clear hA; replace hT := hT.trans (hK.mono hTs); replace hTs := Nat.le_trans hTs hK.size; replace x0 := hK.cell (lt_cell x0) hne x0; replace x1 := hK.cell (lt_cell x1) hne x1; replace x2 := hK.cell (lt_cell x2) hne x2; replace x3 := hK.cell (lt_cell x3) hne x3; replace x4 := hK.cell (lt_cell x4) hne x4; replace x5 := hK.cell (lt_cell x5) hne x5; replace hbl := hL.out.lt; clear hK)
      | (go_at_call 164; (first | (with_reducible refine (atA hL.out hd1 hd2).mono ?_)); rintro e w1 ⟨rfl, hA, hK⟩; replace hL := Lib.hid hA; clear hA; replace hT := hT.trans (hK.mono hTs); replace hTs := Nat.le_trans hTs hK.size; replace x0 := hK.cell (lt_cell x0) hne x0; replace x1 := hK.cell (lt_cell x1) hne x1; replace x2 := hK.cell (lt_cell x2) hne x2; replace x3 := hK.cell (lt_cell x3) hne x3; replace x4 := hK.cell (lt_cell x4) hne x4; replace x5 := hK.cell (lt_cell x5) hne x5; replace hbl := hL.out.lt; clear hK)
      | (go_at_call 206; (first | (with_reducible refine (clsA hL.out hc1 hc2).mono ?_)); rintro e w1 ⟨rfl, hA, hK⟩; replace hL := Lib.hid hA; clear hA; replace hT := hT.trans (hK.mono hTs); replace hTs := Nat.le_trans hTs hK.size; replace x0 := hK.cell (lt_cell x0) hne x0; replace x1 := hK.cell (lt_cell x1) hne x1; replace x2 := hK.cell (lt_cell x2) hne x2; replace x3 := hK.cell (lt_cell x3) hne x3; replace x4 := hK.cell (lt_cell x4) hne x4; replace x5 := hK.cell (lt_cell x5) hne x5; replace hbl := hL.out.lt; clear hK)
      | (go_at_call 110; refine (lin _ _ _ _).mono ?_; rintro e w1 ⟨rfl, rfl⟩))
  all_goals
    go_ret
    refine got_eq hL.out hT ?_
    go_tidy
    simp only [moreX, Rform.body, Rform.num, Form.rng]
    simp
    first
      | done
      | ac_rfl
      | (rw [Bool.eq_iff_iff]; simp only [Bool.and_eq_true, decide_eq_true_eq]; (try simp only [Rform.reg, Form.rng, decide_eq_true_eq]); omega)
      | grind
set_option maxRecDepth 100000 in
set_option maxHeartbeats 4000000 in
theorem moreNo (f : Fi) (m : Me) (op a b c n : Int) (args : List Int) (ok : Bool) (lb : Nat) (ca : Option Addr) (ccap : Nat) (vm vp : Value) (da : Option Addr) (dcap : Nat) (vh : Value) (aa : Option Addr) (acap : Nat) (w : World)
    (h : Lk w lb (.slice ca f.classes.length ccap) vm vp (.slice da m.code.length dcap) vh m ok) (hF : Fit f m f.classes.length ccap dcap) (oks : Ok a ∧ Ok b ∧ Ok c ∧ Ok n) (ha : args.length ≤ acap ∧ acap ≤ 9223372036854775807) (hop : ¬ (13 ≤ op ∧ op ≤ 20) ∧ op ≠ 23 ∧ op ≠ 24 ∧ ¬ (1 ≤ op ∧ op ≤ 12) ∧ op ≠ 21 ∧ op ≠ 22) :
    Calls Try.prog 165 #[.pointer (some ⟨lb, 0, none⟩), .agg #[.int .i64 op, .int .i64 a, .int .i64 b, .int .i64 c, .int .i64 n, .slice aa args.length acap]] w
      (Got w lb (.slice ca f.classes.length ccap) vm vp (.slice da m.code.length dcap) vh m (moreX f m ok ⟨op, a, b, c, n, args⟩)) := by
  obtain ⟨hc1, hc2, hd1, hd2, hr⟩ := hF
  obtain ⟨oa, ob, oc, on⟩ := oks
  obtain ⟨ha1, ha2⟩ := ha
  obtain ⟨hr1, hr2⟩ := hr
  have hr : 0 ≤ m.regs ∧ m.regs ≤ 90 := ⟨hr1, hr2⟩
  have hlt := h.lt
  have hne : w.heap.size ≠ lb := by omega
  have hL := Lib.hid (h.next (Below.alloc (Below.refl _ _) (Nat.le_refl _) (.cells #[.int .i64 op, .int .i64 a, .int .i64 b, .int .i64 c, .int .i64 n, .slice aa args.length acap] 63)) h.lt)
  have hT : Keep w.heap.size lb w (w.alloc (.cells #[.int .i64 op, .int .i64 a, .int .i64 b, .int .i64 c, .int .i64 n, .slice aa args.length acap] 63)) := Keep.alloc (Keep.refl _ _ _) (Nat.le_refl _) _
  have hTs := hT.size
  have hbl := hL.out.lt
  have x0 : (w.alloc (.cells #[.int .i64 op, .int .i64 a, .int .i64 b, .int .i64 c, .int .i64 n, .slice aa args.length acap] 63)).cell? ⟨w.heap.size, 0, none⟩ = some (.int .i64 op) := by go_simp
  have x1 : (w.alloc (.cells #[.int .i64 op, .int .i64 a, .int .i64 b, .int .i64 c, .int .i64 n, .slice aa args.length acap] 63)).cell? ⟨w.heap.size, 1, none⟩ = some (.int .i64 a) := by go_simp
  have x2 : (w.alloc (.cells #[.int .i64 op, .int .i64 a, .int .i64 b, .int .i64 c, .int .i64 n, .slice aa args.length acap] 63)).cell? ⟨w.heap.size, 2, none⟩ = some (.int .i64 b) := by go_simp
  have x3 : (w.alloc (.cells #[.int .i64 op, .int .i64 a, .int .i64 b, .int .i64 c, .int .i64 n, .slice aa args.length acap] 63)).cell? ⟨w.heap.size, 3, none⟩ = some (.int .i64 c) := by go_simp
  have x4 : (w.alloc (.cells #[.int .i64 op, .int .i64 a, .int .i64 b, .int .i64 c, .int .i64 n, .slice aa args.length acap] 63)).cell? ⟨w.heap.size, 4, none⟩ = some (.int .i64 n) := by go_simp
  have x5 : (w.alloc (.cells #[.int .i64 op, .int .i64 a, .int .i64 b, .int .i64 c, .int .i64 n, .slice aa args.length acap] 63)).cell? ⟨w.heap.size, 5, none⟩ = some (.slice aa args.length acap) := by go_simp
  clear h
  have n13 : (op == 13) = false := by simp; omega
  have n16 : (op == 16) = false := by simp; omega
  have n14 : (op == 14) = false := by simp; omega
  have n15 : (op == 15) = false := by simp; omega
  have n17 : (op == 17) = false := by simp; omega
  have n18 : (op == 18) = false := by simp; omega
  have n19 : (op == 19) = false := by simp; omega
  have n23 : (op == 23) = false := by simp; omega
  have n20 : (op == 20) = false := by simp; omega
  have n24 : (op == 24) = false := by simp; omega
  have hX : Hid (moreX f m ok ⟨op, a, b, c, n, args⟩ = false) := by
    show _ = _
    unfold moreX
    have : Rform.body f.classes f.methods m.code.length m.regs m.ret.kind ⟨op, a, b, c, n, args⟩ = false := by
      unfold Rform.body
      simp only
      repeat rw [if_neg (by omega)]
    rw [this]; simp
  clear hop
  go_enter Try.func165, Try.ntmps165
  go_wp2_with (first
      | (go_at_call 161; (first | (with_reducible refine (mustA (by first | rfl | simp) hL.out).mono ?_)); rintro e w1 ⟨rfl, hA, hK⟩; replace hL := Lib.hid hA; clear hA; replace hT := hT.trans (hK.mono hTs); replace hTs := Nat.le_trans hTs hK.size; replace x0 := hK.cell (lt_cell x0) hne x0; replace x1 := hK.cell (lt_cell x1) hne x1; replace x2 := hK.cell (lt_cell x2) hne x2; replace x3 := hK.cell (lt_cell x3) hne x3; replace x4 := hK.cell (lt_cell x4) hne x4; replace x5 := hK.cell (lt_cell x5) hne x5; replace hbl := hL.out.lt; clear hK)
      | (go_at_call 162; (first | (with_reducible refine (reg1A (by first | rfl | simp) hL.out (by first | with_reducible assumption | (unfold Ok; omega)) hr).mono ?_) | (with_reducible refine (reg2A (by first | rfl | simp) hL.out (by first | with_reducible assumption | (unfold Ok; omega)) hr).mono ?_) | (with_reducible refine (reg3A (by first | rfl | simp) hL.out (by first | with_reducible assumption | (unfold Ok; omega)) hr).mono ?_)); rintro e w1 ⟨rfl, hA, hK⟩; replace hL := Lib.hid hA; clear hA; replace hT := hT.trans (hK.mono hTs); replace hTs := Nat.le_trans hTs hK.size; replace x0 := hK.cell (lt_cell x0) hne x0; replace x1 := hK.cell (lt_cell x1) hne x1; replace x2 := hK.cell (lt_cell x2) hne x2; replace x3 := hK.cell (lt_cell x3) hne x3; replace x4 := hK.cell (lt_cell x4) hne x4; replace x5 := hK.cell (lt_cell x5) hne x5; replace hbl := hL.out.lt; clear hK)
      | (go_at_call 163; (first | (with_reducible refine (nought1A (by first | rfl | simp) hL.out).mono ?_) | (with_reducible refine (nought2A (by first | rfl | simp) hL.out).mono ?_)); rintro e w1 ⟨rfl, hA, hK⟩; replace hL := Lib.hid hA; clear hA; replace hT := hT.trans (hK.mono hTs); replace hTs := Nat.le_trans hTs hK.size; replace x0 := hK.cell (lt_cell x0) hne x0; replace x1 := hK.cell (lt_cell x1) hne x1; replace x2 := hK.cell (lt_cell x2) hne x2; replace x3 := hK.cell (lt_cell x3) hne x3; replace x4 := hK.cell (lt_cell x4) hne x4; replace x5 := hK.cell (lt_cell x5) hne x5; replace hbl := hL.out.lt; clear hK)
      | (go_at_call 164; (first | (with_reducible refine (atA hL.out hd1 hd2).mono ?_)); rintro e w1 ⟨rfl, hA, hK⟩; replace hL := Lib.hid hA; clear hA; replace hT := hT.trans (hK.mono hTs); replace hTs := Nat.le_trans hTs hK.size; replace x0 := hK.cell (lt_cell x0) hne x0; replace x1 := hK.cell (lt_cell x1) hne x1; replace x2 := hK.cell (lt_cell x2) hne x2; replace x3 := hK.cell (lt_cell x3) hne x3; replace x4 := hK.cell (lt_cell x4) hne x4; replace x5 := hK.cell (lt_cell x5) hne x5; replace hbl := hL.out.lt; clear hK)
      | (go_at_call 206; (first | (with_reducible refine (clsA hL.out hc1 hc2).mono ?_)); rintro e w1 ⟨rfl, hA, hK⟩; replace hL := Lib.hid hA; clear hA; replace hT := hT.trans (hK.mono hTs); replace hTs := Nat.le_trans hTs hK.size; replace x0 := hK.cell (lt_cell x0) hne x0; replace x1 := hK.cell (lt_cell x1) hne x1; replace x2 := hK.cell (lt_cell x2) hne x2; replace x3 := hK.cell (lt_cell x3) hne x3; replace x4 := hK.cell (lt_cell x4) hne x4; replace x5 := hK.cell (lt_cell x5) hne x5; replace hbl := hL.out.lt; clear hK)
      | (go_at_call 110; refine (lin _ _ _ _).mono ?_; rintro e w1 ⟨rfl, rfl⟩))
  go_ret
  rw [hX.out]
  refine got_eq hL.out hT ?_
  simp
end Look
end Go.Proofs.Ytncmhenfgbcihab
