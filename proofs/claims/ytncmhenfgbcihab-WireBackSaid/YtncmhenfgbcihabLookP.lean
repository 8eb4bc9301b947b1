/- The walk through (*looker).ins, whole. -/
import Derived.Test.YtncmhenfgbcihabLookN
import Derived.Test.YtncmhenfgbcihabLookO
namespace Go.Proofs.Ytncmhenfgbcihab
open Go.RowKit
set_option linter.unusedSimpArgs false
set_option linter.unusedVariables false
namespace Look
open Num Rd D HierW FormW

theorem more (f : Fi) (m : Me) (op a b c n : Int) (args : List Int) (ok : Bool) (lb : Nat) (ca : Option Addr) (ccap : Nat) (vm vp : Value) (da : Option Addr) (dcap : Nat) (vh : Value) (aa : Option Addr) (acap : Nat) (w : World)
    (h : Lk w lb (.slice ca f.classes.length ccap) vm vp (.slice da m.code.length dcap) vh m ok) (hF : Fit f m f.classes.length ccap dcap) (oks : Ok a ∧ Ok b ∧ Ok c ∧ Ok n) (ha : args.length ≤ acap ∧ acap ≤ 9223372036854775807) (okk : Ok m.ret.kind)
    (B0 : Nat) (hB : B0 ≤ lb) (hcl : Sl 2 ECls w B0 (.slice ca f.classes.length ccap) f.classes) (hms : Sl 8 EMe w B0 vm f.methods) (hargs : Sl 1 EInt w B0 (.slice aa args.length acap) args)
    (hop : ¬ (1 ≤ op ∧ op ≤ 12) ∧ op ≠ 21 ∧ op ≠ 22) :
    Calls Try.prog 165 #[.pointer (some ⟨lb, 0, none⟩), .agg #[.int .i64 op, .int .i64 a, .int .i64 b, .int .i64 c, .int .i64 n, .slice aa args.length acap]] w
      (Got w lb (.slice ca f.classes.length ccap) vm vp (.slice da m.code.length dcap) vh m (moreX f m ok ⟨op, a, b, c, n, args⟩)) := by
  by_cases h13 : op = 13
  · subst h13; exact more13 f m a b c n args ok lb ca ccap vm vp da dcap vh aa acap w h hF oks ha
  by_cases h16 : op = 16
  · subst h16; exact more16 f m a b c n args ok lb ca ccap vm vp da dcap vh aa acap w h hF oks ha
  by_cases h17 : op = 17
  · subst h17; exact more17 f m a b c n args ok lb ca ccap vm vp da dcap vh aa acap w h hF oks ha
  by_cases h19 : op = 19
  · subst h19; exact more19 f m a b c n args ok lb ca ccap vm vp da dcap vh aa acap w h hF oks ha
  by_cases h23 : op = 23
  · subst h23; exact more23 f m a b c n args ok lb ca ccap vm vp da dcap vh aa acap w h hF oks ha
  by_cases h24 : op = 24
  · subst h24; exact more24 f m a b c n args ok lb ca ccap vm vp da dcap vh aa acap w h hF oks ha
  by_cases h14 : op = 14
  · subst h14; exact more14 f m a b c n args ok lb ca ccap vm vp da dcap vh aa acap w h hF oks ha B0 hB hcl
  by_cases h15 : op = 15
  · subst h15; exact more15 f m a b c n args ok lb ca ccap vm vp da dcap vh aa acap w h hF oks ha B0 hB hcl
  by_cases h18 : op = 18
  · subst h18; exact more18 f m a b c n args ok lb ca ccap vm vp da dcap vh aa acap w h hF oks ha B0 hB hms hargs
  by_cases h20 : op = 20
  · subst h20; exact more20 f m a b c n args ok lb ca ccap vm vp da dcap vh aa acap w h hF oks ha okk
  exact moreNo f m op a b c n args ok lb ca ccap vm vp da dcap vh aa acap w h hF oks ha (by omega)

set_option maxRecDepth 100000 in
set_option maxHeartbeats 4000000 in
theorem insD (f : Fi) (m : Me) (op a b c n : Int) (args : List Int) (lb : Nat) (ca : Option Addr) (ccap : Nat) (vm vp : Value) (da : Option Addr) (dcap : Nat) (vh : Value) (aa : Option Addr) (acap : Nat) (w : World)
    (h : Lk w lb (.slice ca f.classes.length ccap) vm vp (.slice da m.code.length dcap) vh m true) (hF : Fit f m f.classes.length ccap dcap) (oks : Ok a ∧ Ok b ∧ Ok c ∧ Ok n) (ha : args.length ≤ acap ∧ acap ≤ 9223372036854775807) (okk : Ok m.ret.kind)
    (B0 : Nat) (hB : B0 ≤ lb) (hcl : Sl 2 ECls w B0 (.slice ca f.classes.length ccap) f.classes) (hms : Sl 8 EMe w B0 vm f.methods) (hargs : Sl 1 EInt w B0 (.slice aa args.length acap) args) (hop : ¬ (1 ≤ op ∧ op ≤ 12) ∧ op ≠ 21 ∧ op ≠ 22 ∧ op ≠ 18) :
    Calls Try.prog 112 #[.pointer (some ⟨lb, 0, none⟩), .agg #[.int .i64 op, .int .i64 a, .int .i64 b, .int .i64 c, .int .i64 n, .slice aa args.length acap]] w
      fun e w' => e = .returned (.tuple #[]) ∧ After w lb (.slice ca f.classes.length ccap) vm vp (.slice da m.code.length dcap) vh m (Rform.ins f m ⟨op, a, b, c, n, args⟩) w' := by
  have hF2 := Lib.hid hF
  have oks2 := Lib.hid oks
  have ha2 := Lib.hid ha
  have okk2 := Lib.hid okk
  obtain ⟨ha3, ha4⟩ := ha
  have hlt := h.lt
  have hne : w.heap.size ≠ lb := by omega
  have hL := Lib.hid (h.next (Below.alloc (Below.refl _ _) (Nat.le_refl _) (.cells #[.int .i64 op, .int .i64 a, .int .i64 b, .int .i64 c, .int .i64 n, .slice aa args.length acap] 63)) h.lt)
  have hT : Keep w.heap.size lb w (w.alloc (.cells #[.int .i64 op, .int .i64 a, .int .i64 b, .int .i64 c, .int .i64 n, .slice aa args.length acap] 63)) := Keep.alloc (Keep.refl _ _ _) (Nat.le_refl _) _
  have hTs := hT.size
  have hbl := hL.out.lt
  have x0 : (w.alloc (.cells #[.int .i64 op, .int .i64 a, .int .i64 b, .int .i64 c, .int .i64 n, .slice aa args.length acap] 63)).cell? ⟨w.heap.size, 0, none⟩ = some (.int .i64 op) := by go_simp
  have x1 : (w.alloc (.cells #[.int .i64 op, .int .i64 a, .int .i64 b, .int .i64 c, .int .i64 n, .slice aa args.length acap] 63)).cell? ⟨w.heap.size, 1, none⟩ = some (.int .i64 a) := by go_simp
  have x2 : (w.alloc (.cells #[.int .i64 op, .int .i64 a, .int .i64 b, .int .i64 c, .int .i64 n, .slice aa args.length acap] 63)).cell? ⟨w.heap.size, 2, none⟩ = some (.int .i64 b) := by go_simp
  have x3 : (w.alloc (.cells #[.int .i64 op, .int .i64 a, .int .i64 b, .int .i64 c, .int .i64 n, .slice aa args.length acap] 63)).cell? ⟨w.heap.size, 3, none⟩ = some (.int .i64 c) := by go_simp
  have x4 : (w.alloc (.cells #[.int .i64 op, .int .i64 a, .int .i64 b, .int .i64 c, .int .i64 n, .slice aa args.length acap] 63)).cell? ⟨w.heap.size, 4, none⟩ = some (.int .i64 n) := by go_simp
  have x5 : (w.alloc (.cells #[.int .i64 op, .int .i64 a, .int .i64 b, .int .i64 c, .int .i64 n, .slice aa args.length acap] 63)).cell? ⟨w.heap.size, 5, none⟩ = some (.slice aa args.length acap) := by go_simp
  clear h
  have n1 : (op == 1) = false := by simp; omega
  have n2 : (op == 2) = false := by simp; omega
  have n3 : (op == 3) = false := by simp; omega
  have n4 : (op == 4) = false := by simp; omega
  have n5 : (op == 5) = false := by simp; omega
  have n6 : (op == 6) = false := by simp; omega
  have n7 : (op == 7) = false := by simp; omega
  have n8 : (op == 8) = false := by simp; omega
  have n9 : (op == 9) = false := by simp; omega
  have n10 : (op == 10) = false := by simp; omega
  have n11 : (op == 11) = false := by simp; omega
  have n12 : (op == 12) = false := by simp; omega
  have n21 : (op == 21) = false := by simp; omega
  have n22 : (op == 22) = false := by simp; omega
  have n18 : (op == 18) = false := by simp; omega
  have hop2 := Lib.hid (show ¬ (1 ≤ op ∧ op ≤ 12) ∧ op ≠ 21 ∧ op ≠ 22 from ⟨hop.1, hop.2.1, hop.2.2.1⟩)
  have hop18 := Lib.hid hop.2.2.2
  clear hop
  have hcl2 := Lib.hid hcl
  have hms2 := Lib.hid hms
  have hargs2 := Lib.hid hargs
  clear hcl hms hargs okk oks hF
  go_enter Try.func112, Try.ntmps112
  go_wp2_with fail
  refine (mustA (by first | rfl | simp) hL.out).mono ?_
  rintro e w1 ⟨rfl, hA, hK⟩
  replace hL := Lib.hid hA; clear hA; replace hT := hT.trans (hK.mono hTs); replace hTs := Nat.le_trans hTs hK.size; replace x0 := hK.cell (lt_cell x0) hne x0; replace x1 := hK.cell (lt_cell x1) hne x1; replace x2 := hK.cell (lt_cell x2) hne x2; replace x3 := hK.cell (lt_cell x3) hne x3; replace x4 := hK.cell (lt_cell x4) hne x4; replace x5 := hK.cell (lt_cell x5) hne x5; replace hbl := hL.out.lt; clear hK
  obtain ⟨q, hq⟩ : ∃ q, Hid ((true && ((args.length : Int) == 0)) = q) := ⟨_, rfl⟩
  rw [hq.out] at hL
  go_wp2_with fail
  have hTb : Below B0 w w1 := hT.below (by omega) hB
  refine (more f m op a b c n args q lb ca ccap vm vp da dcap vh aa acap w1 hL.out hF2.out oks2.out ha2.out okk2.out B0 hB (Sl.mono mCls hcl2.out hTb (Nat.le_refl _)) (Sl.mono mMe hms2.out hTb (Nat.le_refl _)) (Sl.mono mInt hargs2.out hTb (Nat.le_refl _)) hop2.out).mono ?_
  rintro e w2 ⟨v, q2, rfl, ⟨hA, hK⟩, heq⟩
  have hEq := Lib.hid heq
  clear heq
  replace hL := Lib.hid hA; clear hA; replace hT := hT.trans (hK.mono hTs); replace hTs := Nat.le_trans hTs hK.size; replace x0 := hK.cell (lt_cell x0) hne x0; replace x1 := hK.cell (lt_cell x1) hne x1; replace x2 := hK.cell (lt_cell x2) hne x2; replace x3 := hK.cell (lt_cell x3) hne x3; replace x4 := hK.cell (lt_cell x4) hne x4; replace x5 := hK.cell (lt_cell x5) hne x5; replace hbl := hL.out.lt; clear hK
  go_wp2_with fail
  refine (mustA (by first | rfl | simp) hL.out).mono ?_
  rintro e w3 ⟨rfl, hA, hK⟩
  replace hL := Lib.hid hA; clear hA; replace hT := hT.trans (hK.mono hTs); replace hTs := Nat.le_trans hTs hK.size; replace x0 := hK.cell (lt_cell x0) hne x0; replace x1 := hK.cell (lt_cell x1) hne x1; replace x2 := hK.cell (lt_cell x2) hne x2; replace x3 := hK.cell (lt_cell x3) hne x3; replace x4 := hK.cell (lt_cell x4) hne x4; replace x5 := hK.cell (lt_cell x5) hne x5; replace hbl := hL.out.lt; clear hK
  go_wp2_with fail
  go_end0
  refine ⟨rfl, after_eq hL.out hT ?_⟩
  rw [show (v == 0) = decide (v = 0) from rfl, hEq.out, ← hq.out]
  unfold moreX Rform.ins
  have e0 : ((args.length : Int) == 0) = decide (args.length = 0) := by rw [Bool.eq_iff_iff]; simp
  rw [e0, decide_eq_false hop18.out]
  simp only [Bool.true_and, Bool.false_or, Bool.and_assoc]

set_option maxRecDepth 100000 in
set_option maxHeartbeats 4000000 in
theorem insC (f : Fi) (m : Me) (a b c n : Int) (args : List Int) (lb : Nat) (ca : Option Addr) (ccap : Nat) (vm vp : Value) (da : Option Addr) (dcap : Nat) (vh : Value) (aa : Option Addr) (acap : Nat) (w : World)
    (h : Lk w lb (.slice ca f.classes.length ccap) vm vp (.slice da m.code.length dcap) vh m true) (hF : Fit f m f.classes.length ccap dcap) (oks : Ok a ∧ Ok b ∧ Ok c ∧ Ok n) (ha : args.length ≤ acap ∧ acap ≤ 9223372036854775807) (okk : Ok m.ret.kind)
    (B0 : Nat) (hB : B0 ≤ lb) (hcl : Sl 2 ECls w B0 (.slice ca f.classes.length ccap) f.classes) (hms : Sl 8 EMe w B0 vm f.methods) (hargs : Sl 1 EInt w B0 (.slice aa args.length acap) args) :
    Calls Try.prog 112 #[.pointer (some ⟨lb, 0, none⟩), .agg #[.int .i64 18, .int .i64 a, .int .i64 b, .int .i64 c, .int .i64 n, .slice aa args.length acap]] w
      fun e w' => e = .returned (.tuple #[]) ∧ After w lb (.slice ca f.classes.length ccap) vm vp (.slice da m.code.length dcap) vh m (Rform.ins f m ⟨18, a, b, c, n, args⟩) w' := by
  have hF2 := Lib.hid hF
  have oks2 := Lib.hid oks
  have ha2 := Lib.hid ha
  have okk2 := Lib.hid okk
  obtain ⟨ha3, ha4⟩ := ha
  have hlt := h.lt
  have hne : w.heap.size ≠ lb := by omega
  have hL := Lib.hid (h.next (Below.alloc (Below.refl _ _) (Nat.le_refl _) (.cells #[.int .i64 18, .int .i64 a, .int .i64 b, .int .i64 c, .int .i64 n, .slice aa args.length acap] 63)) h.lt)
  have hT : Keep w.heap.size lb w (w.alloc (.cells #[.int .i64 18, .int .i64 a, .int .i64 b, .int .i64 c, .int .i64 n, .slice aa args.length acap] 63)) := Keep.alloc (Keep.refl _ _ _) (Nat.le_refl _) _
  have hTs := hT.size
  have hbl := hL.out.lt
  have x0 : (w.alloc (.cells #[.int .i64 18, .int .i64 a, .int .i64 b, .int .i64 c, .int .i64 n, .slice aa args.length acap] 63)).cell? ⟨w.heap.size, 0, none⟩ = some (.int .i64 18) := by go_simp
  have x1 : (w.alloc (.cells #[.int .i64 18, .int .i64 a, .int .i64 b, .int .i64 c, .int .i64 n, .slice aa args.length acap] 63)).cell? ⟨w.heap.size, 1, none⟩ = some (.int .i64 a) := by go_simp
  have x2 : (w.alloc (.cells #[.int .i64 18, .int .i64 a, .int .i64 b, .int .i64 c, .int .i64 n, .slice aa args.length acap] 63)).cell? ⟨w.heap.size, 2, none⟩ = some (.int .i64 b) := by go_simp
  have x3 : (w.alloc (.cells #[.int .i64 18, .int .i64 a, .int .i64 b, .int .i64 c, .int .i64 n, .slice aa args.length acap] 63)).cell? ⟨w.heap.size, 3, none⟩ = some (.int .i64 c) := by go_simp
  have x4 : (w.alloc (.cells #[.int .i64 18, .int .i64 a, .int .i64 b, .int .i64 c, .int .i64 n, .slice aa args.length acap] 63)).cell? ⟨w.heap.size, 4, none⟩ = some (.int .i64 n) := by go_simp
  have x5 : (w.alloc (.cells #[.int .i64 18, .int .i64 a, .int .i64 b, .int .i64 c, .int .i64 n, .slice aa args.length acap] 63)).cell? ⟨w.heap.size, 5, none⟩ = some (.slice aa args.length acap) := by go_simp
  clear h
  have hop2 := Lib.hid (show ¬ (1 ≤ (18 : Int) ∧ (18 : Int) ≤ 12) ∧ (18 : Int) ≠ 21 ∧ (18 : Int) ≠ 22 from by omega)
  have hcl2 := Lib.hid hcl
  have hms2 := Lib.hid hms
  have hargs2 := Lib.hid hargs
  clear hcl hms hargs okk oks hF
  go_enter Try.func112, Try.ntmps112
  go_wp2_with fail
  refine (mustA (by first | rfl | simp) hL.out).mono ?_
  rintro e w1 ⟨rfl, hA, hK⟩
  replace hL := Lib.hid hA; clear hA; replace hT := hT.trans (hK.mono hTs); replace hTs := Nat.le_trans hTs hK.size; replace x0 := hK.cell (lt_cell x0) hne x0; replace x1 := hK.cell (lt_cell x1) hne x1; replace x2 := hK.cell (lt_cell x2) hne x2; replace x3 := hK.cell (lt_cell x3) hne x3; replace x4 := hK.cell (lt_cell x4) hne x4; replace x5 := hK.cell (lt_cell x5) hne x5; replace hbl := hL.out.lt; clear hK
  obtain ⟨q, hq⟩ : ∃ q, Hid ((true && true) = q) := ⟨_, rfl⟩
  rw [hq.out] at hL
  go_wp2_with fail
  have hTb : Below B0 w w1 := hT.below (by omega) hB
  refine (more f m 18 a b c n args q lb ca ccap vm vp da dcap vh aa acap w1 hL.out hF2.out oks2.out ha2.out okk2.out B0 hB (Sl.mono mCls hcl2.out hTb (Nat.le_refl _)) (Sl.mono mMe hms2.out hTb (Nat.le_refl _)) (Sl.mono mInt hargs2.out hTb (Nat.le_refl _)) hop2.out).mono ?_
  rintro e w2 ⟨v, q2, rfl, ⟨hA, hK⟩, heq⟩
  have hEq := Lib.hid heq
  clear heq
  replace hL := Lib.hid hA; clear hA; replace hT := hT.trans (hK.mono hTs); replace hTs := Nat.le_trans hTs hK.size; replace x0 := hK.cell (lt_cell x0) hne x0; replace x1 := hK.cell (lt_cell x1) hne x1; replace x2 := hK.cell (lt_cell x2) hne x2; replace x3 := hK.cell (lt_cell x3) hne x3; replace x4 := hK.cell (lt_cell x4) hne x4; replace x5 := hK.cell (lt_cell x5) hne x5; replace hbl := hL.out.lt; clear hK
  go_wp2_with fail
  refine (mustA (by first | rfl | simp) hL.out).mono ?_
  rintro e w3 ⟨rfl, hA, hK⟩
  replace hL := Lib.hid hA; clear hA; replace hT := hT.trans (hK.mono hTs); replace hTs := Nat.le_trans hTs hK.size; replace x0 := hK.cell (lt_cell x0) hne x0; replace x1 := hK.cell (lt_cell x1) hne x1; replace x2 := hK.cell (lt_cell x2) hne x2; replace x3 := hK.cell (lt_cell x3) hne x3; replace x4 := hK.cell (lt_cell x4) hne x4; replace x5 := hK.cell (lt_cell x5) hne x5; replace hbl := hL.out.lt; clear hK
  go_wp2_with fail
  go_end0
  refine ⟨rfl, after_eq hL.out hT ?_⟩
  rw [show (v == 0) = decide (v = 0) from rfl, hEq.out, ← hq.out]
  unfold moreX Rform.ins
  simp only [Bool.true_and, decide_true, Bool.true_or]

theorem ins (f : Fi) (m : Me) (i : Ins) (vi : Value) (lb : Nat) (ca : Option Addr) (ccap : Nat) (vm vp : Value) (da : Option Addr) (dcap : Nat) (vh : Value) (w : World)
    (h : Lk w lb (.slice ca f.classes.length ccap) vm vp (.slice da m.code.length dcap) vh m true) (hF : Fit f m f.classes.length ccap dcap) (okk : Ok m.ret.kind)
    (B0 : Nat) (hB : B0 ≤ lb) (hcl : Sl 2 ECls w B0 (.slice ca f.classes.length ccap) f.classes) (hms : Sl 8 EMe w B0 vm f.methods) (hi : VIns w B0 vi i) :
    Calls Try.prog 112 #[.pointer (some ⟨lb, 0, none⟩), vi] w
      fun e w' => e = .returned (.tuple #[]) ∧ After w lb (.slice ca f.classes.length ccap) vm vp (.slice da m.code.length dcap) vh m (Rform.ins f m i) w' := by
  obtain ⟨op, a, b, c, n, args⟩ := i
  obtain ⟨va, rfl, ⟨oop, oa, ob, oc, on⟩, hargs⟩ := hi
  have hargs2 := hargs
  obtain ⟨aa, acap, rfl, alc, acc, _⟩ := hargs2
  simp only at *
  by_cases h1 : op = 1
  · subst h1; exact ins1 f m a b c n args lb ca ccap vm vp da dcap vh aa acap w h hF ⟨oa, ob, oc, on⟩ ⟨alc, acc⟩
  by_cases h2 : op = 2
  · subst h2; exact ins2 f m a b c n args lb ca ccap vm vp da dcap vh aa acap w h hF ⟨oa, ob, oc, on⟩ ⟨alc, acc⟩
  by_cases h3 : op = 3
  · subst h3; exact ins3 f m a b c n args lb ca ccap vm vp da dcap vh aa acap w h hF ⟨oa, ob, oc, on⟩ ⟨alc, acc⟩
  by_cases h4 : op = 4
  · subst h4; exact ins4 f m a b c n args lb ca ccap vm vp da dcap vh aa acap w h hF ⟨oa, ob, oc, on⟩ ⟨alc, acc⟩
  by_cases h5 : op = 5
  · subst h5; exact ins5 f m a b c n args lb ca ccap vm vp da dcap vh aa acap w h hF ⟨oa, ob, oc, on⟩ ⟨alc, acc⟩
  by_cases h6 : op = 6
  · subst h6; exact ins6 f m a b c n args lb ca ccap vm vp da dcap vh aa acap w h hF ⟨oa, ob, oc, on⟩ ⟨alc, acc⟩
  by_cases h7 : op = 7
  · subst h7; exact ins7 f m a b c n args lb ca ccap vm vp da dcap vh aa acap w h hF ⟨oa, ob, oc, on⟩ ⟨alc, acc⟩
  by_cases h8 : op = 8
  · subst h8; exact ins8 f m a b c n args lb ca ccap vm vp da dcap vh aa acap w h hF ⟨oa, ob, oc, on⟩ ⟨alc, acc⟩
  by_cases h9 : op = 9
  · subst h9; exact ins9 f m a b c n args lb ca ccap vm vp da dcap vh aa acap w h hF ⟨oa, ob, oc, on⟩ ⟨alc, acc⟩
  by_cases h10 : op = 10
  · subst h10; exact ins10 f m a b c n args lb ca ccap vm vp da dcap vh aa acap w h hF ⟨oa, ob, oc, on⟩ ⟨alc, acc⟩
  by_cases h11 : op = 11
  · subst h11; exact ins11 f m a b c n args lb ca ccap vm vp da dcap vh aa acap w h hF ⟨oa, ob, oc, on⟩ ⟨alc, acc⟩
  by_cases h12 : op = 12
  · subst h12; exact ins12 f m a b c n args lb ca ccap vm vp da dcap vh aa acap w h hF ⟨oa, ob, oc, on⟩ ⟨alc, acc⟩
  by_cases h21 : op = 21
  · subst h21; exact ins21 f m a b c n args lb ca ccap vm vp da dcap vh aa acap w h hF ⟨oa, ob, oc, on⟩ ⟨alc, acc⟩
  by_cases h22 : op = 22
  · subst h22; exact ins22 f m a b c n args lb ca ccap vm vp da dcap vh aa acap w h hF ⟨oa, ob, oc, on⟩ ⟨alc, acc⟩
  by_cases h18 : op = 18
  · subst h18; exact insC f m a b c n args lb ca ccap vm vp da dcap vh aa acap w h hF ⟨oa, ob, oc, on⟩ ⟨alc, acc⟩ okk B0 hB hcl hms hargs
  exact insD f m op a b c n args lb ca ccap vm vp da dcap vh aa acap w h hF ⟨oa, ob, oc, on⟩ ⟨alc, acc⟩ okk B0 hB hcl hms hargs (by omega)
end Look
end Go.Proofs.Ytncmhenfgbcihab
