/- The walk through (*looker).more at fields (RGet, RPut), RReturn. -/
import Derived.Test.YtncmhenfgbcihabLookM
namespace Go.Proofs.Ytncmhenfgbcihab
open Go.RowKit
set_option linter.unusedSimpArgs false
set_option linter.unusedVariables false
namespace Look
open Num Rd D HierW FormW

set_option maxRecDepth 100000 in
set_option maxHeartbeats 4000000 in
theorem more14 (f : Fi) (m : Me) (a b c n : Int) (args : List Int) (ok : Bool) (lb : Nat) (ca : Option Addr) (ccap : Nat) (vm vp : Value) (da : Option Addr) (dcap : Nat) (vh : Value) (aa : Option Addr) (acap : Nat) (w : World)
    (h : Lk w lb (.slice ca f.classes.length ccap) vm vp (.slice da m.code.length dcap) vh m ok) (hF : Fit f m f.classes.length ccap dcap) (oks : Ok a ∧ Ok b ∧ Ok c ∧ Ok n) (ha : args.length ≤ acap ∧ acap ≤ 9223372036854775807) (B0 : Nat) (hB : B0 ≤ lb) (hcl : Sl 2 ECls w B0 (.slice ca f.classes.length ccap) f.classes) :
    Calls Try.prog 165 #[.pointer (some ⟨lb, 0, none⟩), .agg #[.int .i64 14, .int .i64 a, .int .i64 b, .int .i64 c, .int .i64 n, .slice aa args.length acap]] w
      (Got w lb (.slice ca f.classes.length ccap) vm vp (.slice da m.code.length dcap) vh m (moreX f m ok ⟨14, a, b, c, n, args⟩)) := by
  obtain ⟨hc1, hc2, hd1, hd2, hr⟩ := hF
  obtain ⟨oa, ob, oc, on⟩ := oks
  obtain ⟨ha1, ha2⟩ := ha
  obtain ⟨hr1, hr2⟩ := hr
  have hr : 0 ≤ m.regs ∧ m.regs ≤ 90 := ⟨hr1, hr2⟩
  have hlt := h.lt
  have hne : w.heap.size ≠ lb := by omega
  have hL := Lib.hid (h.next (Below.alloc (Below.refl _ _) (Nat.le_refl _) (.cells #[.int .i64 14, .int .i64 a, .int .i64 b, .int .i64 c, .int .i64 n, .slice aa args.length acap] 63)) h.lt)
  have hT : Keep w.heap.size lb w (w.alloc (.cells #[.int .i64 14, .int .i64 a, .int .i64 b, .int .i64 c, .int .i64 n, .slice aa args.length acap] 63)) := Keep.alloc (Keep.refl _ _ _) (Nat.le_refl _) _
  have hTs := hT.size
  have hbl := hL.out.lt
  have x0 : (w.alloc (.cells #[.int .i64 14, .int .i64 a, .int .i64 b, .int .i64 c, .int .i64 n, .slice aa args.length acap] 63)).cell? ⟨w.heap.size, 0, none⟩ = some (.int .i64 14) := by go_simp
  have x1 : (w.alloc (.cells #[.int .i64 14, .int .i64 a, .int .i64 b, .int .i64 c, .int .i64 n, .slice aa args.length acap] 63)).cell? ⟨w.heap.size, 1, none⟩ = some (.int .i64 a) := by go_simp
  have x2 : (w.alloc (.cells #[.int .i64 14, .int .i64 a, .int .i64 b, .int .i64 c, .int .i64 n, .slice aa args.length acap] 63)).cell? ⟨w.heap.size, 2, none⟩ = some (.int .i64 b) := by go_simp
  have x3 : (w.alloc (.cells #[.int .i64 14, .int .i64 a, .int .i64 b, .int .i64 c, .int .i64 n, .slice aa args.length acap] 63)).cell? ⟨w.heap.size, 3, none⟩ = some (.int .i64 c) := by go_simp
  have x4 : (w.alloc (.cells #[.int .i64 14, .int .i64 a, .int .i64 b, .int .i64 c, .int .i64 n, .slice aa args.length acap] 63)).cell? ⟨w.heap.size, 4, none⟩ = some (.int .i64 n) := by go_simp
  have x5 : (w.alloc (.cells #[.int .i64 14, .int .i64 a, .int .i64 b, .int .i64 c, .int .i64 n, .slice aa args.length acap] 63)).cell? ⟨w.heap.size, 5, none⟩ = some (.slice aa args.length acap) := by go_simp
  clear h
  go_enter Try.func165, Try.ntmps165
  go_wp2_with fail
  refine (clsA hL.out hc1 hc2).mono ?_
  rintro e w1 ⟨rfl, hA, hK⟩
  replace hL := Lib.hid hA; clear hA; replace hT := hT.trans (hK.mono hTs); replace hTs := Nat.le_trans hTs hK.size; replace x0 := hK.cell (lt_cell x0) hne x0; replace x1 := hK.cell (lt_cell x1) hne x1; replace x2 := hK.cell (lt_cell x2) hne x2; replace x3 := hK.cell (lt_cell x3) hne x3; replace x4 := hK.cell (lt_cell x4) hne x4; replace x5 := hK.cell (lt_cell x5) hne x5; replace hbl := hL.out.lt; clear hK
  obtain ⟨q, hq⟩ : ∃ q, Hid ((ok && Form.rng c 0 f.classes.length) = q) := ⟨_, rfl⟩
  rw [hq.out] at hL
  have z10 := hL.out.2.2.1
  cases q
  · have hX : Hid (moreX f m ok ⟨14, a, b, c, n, args⟩ = false) := by
      show _ = _
      have h := hq.out
      rw [Bool.and_eq_false_iff] at h
      rcases h with h | h <;> simp [moreX, Rform.body, h]
    go_wp2_with fail
    go_ret
    rw [hX.out]
    exact got_eq hL.out hT (by simp)
  · have hq2 := hq.out
    rw [Bool.and_eq_true] at hq2
    obtain ⟨hok, hrc⟩ := hq2
    have hr2 : 0 ≤ c ∧ c < f.classes.length := by simpa [Form.rng] using hrc
    obtain ⟨k, rfl⟩ := Int.eq_ofNat_of_zero_le hr2.1
    have hk : k < f.classes.length := by omega
    obtain ⟨ca', ccap', hca, _, _, cel⟩ := hcl
    injection hca with hca1 hca2 hca3
    subst hca1
    obtain ⟨b0, o0, rfl, hb0, he⟩ := cel k hk
    have hnf : Hid (Form.nf f.classes (k : Int) = (f.classes[k]).fields.length) := by
      show _ = _
      rw [Form.nf, Int.toNat_natCast, Hier.at_eq hk]
    have hfk : Hid (∀ j : Nat, Rform.fk f.classes (k : Int) (j : Int) = ((f.classes[k]).fields.getD j ⟨0, 0⟩).kind) := by
      intro j
      rw [Rform.fk, Int.toNat_natCast, Int.toNat_natCast, Hier.at_eq hk]
    obtain ⟨x, hx⟩ := at_of hk
    rw [hx.out] at he hnf hfk
    obtain ⟨_, _, fv, g3, fa, fcap, rfl, flc, fcc, fel⟩ := he
    have hb0' : b0 < w.heap.size := by omega
    have g4 := hT.cell hb0' (by omega) g3
    have y0 := hL.out.1.1
    have hk0 : (0 : Int) ≤ (k : Int) ∧ (k : Int) < f.classes.length := ⟨by omega, by omega⟩
    have hXX : Hid (∀ p : Bool, p = (Form.rng n 0 x.fields.length && Rform.reg m.regs a (Rform.fk f.classes k n) && Rform.reg m.regs b 3) → moreX f m ok ⟨14, a, b, (k : Int), n, args⟩ = p) := by
      intro p hp
      subst hp
      have h := hnf.out
      simp [moreX, Rform.body, Rform.num, hok, hrc, h]
    clear cel hrc hr2 g3 hq hca2 hca3
    go_wp2_with fail
    refine wp_region_held_drew (S := fun w' => w'.cell? ⟨lb, 0, none⟩ = some (.slice (some ⟨b0, o0, none⟩) f.classes.length ccap) ∧ w'.cell? ⟨w.heap.size, 3, none⟩ = some (.int .i64 (k : Int)) ∧ w'.cell? ⟨b0, o0 + k * 2 + 1, none⟩ = some (.slice fa x.fields.length fcap)) (by kernel_rfl) (by (try dsimp only); first | exact ⟨y0, x3, g4⟩ | go_keep) (fun hHeld => ?_)
    refine Drawn.tk 0 (some 43) rfl rfl (by assumption) ?_
    try simp only [Act.put, List.setIfInBounds_toArray, List.set_cons_zero, List.set_cons_succ]
    refine Drawn.tk 1 (some 44) rfl rfl (by assumption) ?_
    try simp only [Act.put, List.setIfInBounds_toArray, List.set_cons_zero, List.set_cons_succ]
    refine Drawn.tk 2 (some 45) rfl rfl (by assumption) ?_
    try simp only [Act.put, List.setIfInBounds_toArray, List.set_cons_zero, List.set_cons_succ]
    refine Drawn.tk 3 (some 46) rfl rfl (by assumption) ?_
    try simp only [Act.put, List.setIfInBounds_toArray, List.set_cons_zero, List.set_cons_succ]
    refine Drawn.tk 4 (some 47) rfl rfl (by assumption) ?_
    try simp only [Act.put, List.setIfInBounds_toArray, List.set_cons_zero, List.set_cons_succ]
    refine Drawn.tk 5 (some 48) rfl rfl (by assumption) ?_
    try simp only [Act.put, List.setIfInBounds_toArray, List.set_cons_zero, List.set_cons_succ]
    refine Drawn.tk 6 (some 49) rfl rfl (by assumption) ?_
    try simp only [Act.put, List.setIfInBounds_toArray, List.set_cons_zero, List.set_cons_succ]
    refine Drawn.tk 7 (some 50) rfl rfl (by assumption) ?_
    try simp only [Act.put, List.setIfInBounds_toArray, List.set_cons_zero, List.set_cons_succ]
    refine Drawn.tk 8 (some 51) rfl rfl (by assumption) ?_
    try simp only [Act.put, List.setIfInBounds_toArray, List.set_cons_zero, List.set_cons_succ]
    refine Drawn.tk 9 (some 52) rfl rfl (by assumption) ?_
    try simp only [Act.put, List.setIfInBounds_toArray, List.set_cons_zero, List.set_cons_succ]
    refine Drawn.tk 10 (some 5) rfl rfl (by assumption) ?_
    try simp only [Act.put, List.setIfInBounds_toArray, List.set_cons_zero, List.set_cons_succ]
    refine wpAnyH_done (by kernel_rfl) ?_ _
    have fcI : (x.fields.length : Int) ≤ 9223372036854775807 := by omega
    replace hL := Lib.hid (hL.out.next (Below.drew (Below.refl _ _)) hbl)
    replace hT := Keep.drew hT
    have HX := hXX
    by_cases hn : 0 ≤ n ∧ n < x.fields.length
    · obtain ⟨hn0, hn1⟩ := hn
      obtain ⟨j, rfl⟩ := Int.eq_ofNat_of_zero_le hn0
      have hj : j < x.fields.length := by omega
      have hrn : Form.rng (j : Int) 0 x.fields.length = true := by simp [Form.rng]; omega
      obtain ⟨fb, fo, rfl, hfb, hfe⟩ := fel j hj
      have hfk2 : Hid (Rform.fk f.classes (k : Int) (j : Int) = (x.fields[j]).kind) := by
        show _ = _
        rw [hfk.out j]; simp [hj]
      obtain ⟨t, ht⟩ := at_of hj
      rw [ht.out] at hfe hfk2
      obtain ⟨e1, _, okk, _⟩ := hfe
      have hXY := Lib.hid (hXX.out _ rfl)
      rw [hrn, hfk2.out] at hXY
      have HRN := Lib.hid hrn
      have hnI : (0 : Int) ≤ (j : Int) ∧ (j : Int) < x.fields.length := ⟨by omega, by omega⟩
      have e4 := hT.cell (by omega) (by omega) e1
      clear hrn fel e1
      go_wp2_with fail
      refine (mustA (by first | rfl | simp) hL.out).mono ?_
      rintro e w2 ⟨rfl, hA, hK⟩
      replace e4 := hK.cell (lt_cell e4) (by omega) e4
      replace hL := Lib.hid hA; clear hA; replace hT := hT.trans (hK.mono hTs); replace hTs := Nat.le_trans hTs hK.size; replace x0 := hK.cell (lt_cell x0) hne x0; replace x1 := hK.cell (lt_cell x1) hne x1; replace x2 := hK.cell (lt_cell x2) hne x2; replace x3 := hK.cell (lt_cell x3) hne x3; replace x4 := hK.cell (lt_cell x4) hne x4; replace x5 := hK.cell (lt_cell x5) hne x5; replace hbl := hL.out.lt; clear hK
      simp only [Bool.and_true] at hL
      have z10 := hL.out.2.2.1
      go_wp2_with fail
      refine wp_region_held_drew (S := fun w' => w'.cell? ⟨w.heap.size, 4, none⟩ = some (.int .i64 (j : Int)) ∧ w'.cell? ⟨w.heap.size, 1, none⟩ = some (.int .i64 a) ∧ w'.cell? ⟨fb, fo + j * 2, none⟩ = some (.int .i64 t.kind)) (by kernel_rfl) (by (try dsimp only); first | exact ⟨x4, x1, e4⟩ | go_keep) (fun hHeld => ?_)
      refine Drawn.tk 0 (some 70) rfl rfl (by assumption) ?_
      try simp only [Act.put, List.setIfInBounds_toArray, List.set_cons_zero, List.set_cons_succ]
      refine Drawn.tk 1 (some 71) rfl rfl (by assumption) ?_
      try simp only [Act.put, List.setIfInBounds_toArray, List.set_cons_zero, List.set_cons_succ]
      refine Drawn.tk 2 (some 72) rfl rfl (by assumption) ?_
      try simp only [Act.put, List.setIfInBounds_toArray, List.set_cons_zero, List.set_cons_succ]
      refine Drawn.tk 3 (some 73) rfl rfl (by assumption) ?_
      try simp only [Act.put, List.setIfInBounds_toArray, List.set_cons_zero, List.set_cons_succ]
      refine Drawn.tk 4 (some 74) rfl rfl (by assumption) ?_
      try simp only [Act.put, List.setIfInBounds_toArray, List.set_cons_zero, List.set_cons_succ]
      refine Drawn.tk 5 (some 75) rfl rfl (by assumption) ?_
      try simp only [Act.put, List.setIfInBounds_toArray, List.set_cons_zero, List.set_cons_succ]
      refine Drawn.tk 6 (some 76) rfl rfl (by assumption) ?_
      try simp only [Act.put, List.setIfInBounds_toArray, List.set_cons_zero, List.set_cons_succ]
      refine Drawn.tk 7 (some 77) rfl rfl (by assumption) ?_
      try simp only [Act.put, List.setIfInBounds_toArray, List.set_cons_zero, List.set_cons_succ]
      refine Drawn.tk 8 (some 78) rfl rfl (by assumption) ?_
      try simp only [Act.put, List.setIfInBounds_toArray, List.set_cons_zero, List.set_cons_succ]
      have hl4 := lt_cell e4
      have hlx := lt_cell x4
      refine wpAnyH_ready (rs := [9]) (by kernel_rfl) (by simp) ?_
      refine AllReadyH.cons rfl (fun K hK => ?_) AllReadyH.nil
      go_simp
      refine hK.out _ _ (by (try dsimp only); go_simp) (fun hHeld => ?_)
      clear hK K
      try simp only [Act.put, List.setIfInBounds_toArray, List.set_cons_zero, List.set_cons_succ]
      refine wpAnyH_ready (rs := [10]) (by kernel_rfl) (by simp) ?_
      refine AllReadyH.cons rfl (fun K hK => ?_) AllReadyH.nil
      go_simp
      with_reducible refine (reg1D (by first | rfl | simp) hL.out okk hr).mono ?_
      rintro e w3 ⟨rfl, hA, hK5⟩
      replace e4 := hK5.cell (lt_cell e4) (by omega) e4
      replace hL := Lib.hid hA; clear hA; replace hT := hT.trans (hK5.mono hTs); replace hTs := Nat.le_trans hTs hK5.size; replace x0 := hK5.cell (lt_cell x0) hne x0; replace x1 := hK5.cell (lt_cell x1) hne x1; replace x2 := hK5.cell (lt_cell x2) hne x2; replace x3 := hK5.cell (lt_cell x3) hne x3; replace x4 := hK5.cell (lt_cell x4) hne x4; replace x5 := hK5.cell (lt_cell x5) hne x5; replace hbl := hL.out.lt; clear hK5
      go_wp2_with fail
      refine hK.out _ _ (by (try dsimp only); exact ⟨x4, x1, e4⟩) (fun hHeld => ?_)
      clear hK K
      try simp only [Act.put, List.setIfInBounds_toArray, List.set_cons_zero, List.set_cons_succ]
      refine wpAnyH_done (by kernel_rfl) ?_ _
      go_wp2_with (first
      | (go_at_call 161; (first | (with_reducible refine (mustA (by first | rfl | simp) hL.out).mono ?_)); rintro e w1 ⟨rfl, hA, hK⟩; replace hL := Lib.hid hA; clear hA; replace hT := hT.trans (hK.mono hTs); replace hTs := Nat.le_trans hTs hK.size; replace x0 := hK.cell (lt_cell x0) hne x0; replace x1 := hK.cell (lt_cell x1) hne x1; replace x2 := hK.cell (lt_cell x2) hne x2; replace x3 := hK.cell (lt_cell x3) hne x3; replace x4 := hK.cell (lt_cell x4) hne x4; replace x5 := hK.cell (lt_cell x5) hne x5; replace hbl := hL.out.lt; clear hK)
      | (go_at_call 162; (first | (with_reducible refine (reg1A (by first | rfl | simp) hL.out (by first | with_reducible assumption | (unfold Ok; omega)) hr).mono ?_) | (with_reducible refine (reg2A (by first | rfl | simp) hL.out (by first | with_reducible assumption | (unfold Ok; omega)) hr).mono ?_) | (with_reducible refine (reg3A (by first | rfl | simp) hL.out (by first | with_reducible assumption | (unfold Ok; omega)) hr).mono ?_)); rintro e w1 ⟨rfl, hA, hK⟩; replace hL := Lib.hid hA; clear hA; replace hT := hT.trans (hK.mono hTs); replace hTs := Nat.le_trans hTs hK.size; replace x0 := hK.cell (lt_cell x0) hne x0; replace x1 := hK.cell (lt_cell x1) hne x1; replace x2 := hK.cell (lt_cell x2) hne x2; replace x3 := hK.cell (lt_cell x3) hne x3; replace x4 := hK.cell (lt_cell x4) hne x4; replace x5 := hK.cell (lt_cell x5) hne x5; replace hbl := hL.out.lt; clear hK)
      | (go_at_call 163; (first | (with_reducible refine (nought1A (by first | rfl | simp) hL.out).mono ?_) | (with_reducible refine (nought2A (by first | rfl | simp) hL.out).mono ?_)); rintro e w1 ⟨rfl, hA, hK⟩; replace hL := Lib.hid hA; clear hA; replace hT := hT.trans (hK.mono hTs); replace hTs := Nat.le_trans hTs hK.size; replace x0 := hK.cell (lt_cell x0) hne x0; replace x1 := hK.cell (lt_cell x1) hne x1; replace x2 := hK.cell (lt_cell x2) hne x2; replace x3 := hK.cell (lt_cell x3) hne x3; replace x4 := hK.cell (lt_cell x4) hne x4; replace x5 := hK.cell (lt_cell x5) hne x5; replace hbl := hL.out.lt; clear hK)
      | (go_at_call 164; (first | (with_reducible refine (atA hL.out hd1 hd2).mono ?_)); rintro e w1 ⟨rfl, hA, hK⟩; replace hL := Lib.hid hA; clear hA; replace hT := hT.trans (hK.mono hTs); replace hTs := Nat.le_trans hTs hK.size; replace x0 := hK.cell (lt_cell x0) hne x0; replace x1 := hK.cell (lt_cell x1) hne x1; replace x2 := hK.cell (lt_cell x2) hne x2; replace x3 := hK.cell (lt_cell x3) hne x3; replace x4 := hK.cell (lt_cell x4) hne x4; replace x5 := hK.cell (lt_cell x5) hne x5; replace hbl := hL.out.lt; clear hK)
      | (go_at_call 206; (first | (with_reducible refine (clsA hL.out hc1 hc2).mono ?_)); rintro e w1 ⟨rfl, hA, hK⟩; replace hL := Lib.hid hA; clear hA; replace hT := hT.trans (hK.mono hTs); replace hTs := Nat.le_trans hTs hK.size; replace x0 := hK.cell (lt_cell x0) hne x0; replace x1 := hK.cell (lt_cell x1) hne x1; replace x2 := hK.cell (lt_cell x2) hne x2; replace x3 := hK.cell (lt_cell x3) hne x3; replace x4 := hK.cell (lt_cell x4) hne x4; replace x5 := hK.cell (lt_cell x5) hne x5; replace hbl := hL.out.lt; clear hK)
      | (go_at_call 110; refine (lin _ _ _ _).mono ?_; rintro e w1 ⟨rfl, rfl⟩))
      go_ret
      rw [hXY.out]
      exact got_eq hL.out hT (by simp)
    · have hrn : Form.rng n 0 x.fields.length = false := by simp [Form.rng]; omega
      have hXY := Lib.hid (hXX.out _ rfl)
      rw [hrn] at hXY
      by_cases hn0 : 0 ≤ n
      · have hn1 : ¬ n < (x.fields.length : Int) := by omega
        clear hn
        go_wp2_with fail
        refine (mustA (by first | rfl | simp) hL.out).mono ?_
        rintro e w2 ⟨rfl, hA, hK⟩
        replace hL := Lib.hid hA; clear hA; replace hT := hT.trans (hK.mono hTs); replace hTs := Nat.le_trans hTs hK.size; replace x0 := hK.cell (lt_cell x0) hne x0; replace x1 := hK.cell (lt_cell x1) hne x1; replace x2 := hK.cell (lt_cell x2) hne x2; replace x3 := hK.cell (lt_cell x3) hne x3; replace x4 := hK.cell (lt_cell x4) hne x4; replace x5 := hK.cell (lt_cell x5) hne x5; replace hbl := hL.out.lt; clear hK
        simp only [Bool.and_false] at hL
        have z10 := hL.out.2.2.1
        go_wp2_with (first
      | (go_at_call 161; (first | (with_reducible refine (mustA (by first | rfl | simp) hL.out).mono ?_)); rintro e w1 ⟨rfl, hA, hK⟩; replace hL := Lib.hid hA; clear hA; replace hT := hT.trans (hK.mono hTs); replace hTs := Nat.le_trans hTs hK.size; replace x0 := hK.cell (lt_cell x0) hne x0; replace x1 := hK.cell (lt_cell x1) hne x1; replace x2 := hK.cell (lt_cell x2) hne x2; replace x3 := hK.cell (lt_cell x3) hne x3; replace x4 := hK.cell (lt_cell x4) hne x4; replace x5 := hK.cell (lt_cell x5) hne x5; replace hbl := hL.out.lt; clear hK)
      | (go_at_call 162; (first | (with_reducible refine (reg1A (by first | rfl | simp) hL.out (by first | with_reducible assumption | (unfold Ok; omega)) hr).mono ?_) | (with_reducible refine (reg2A (by first | rfl | simp) hL.out (by first | with_reducible assumption | (unfold Ok; omega)) hr).mono ?_) | (with_reducible refine (reg3A (by first | rfl | simp) hL.out (by first | with_reducible assumption | (unfold Ok; omega)) hr).mono ?_)); rintro e w1 ⟨rfl, hA, hK⟩; replace hL := Lib.hid hA; clear hA; replace hT := hT.trans (hK.mono hTs); replace hTs := Nat.le_trans hTs hK.size; replace x0 := hK.cell (lt_cell x0) hne x0; replace x1 := hK.cell (lt_cell x1) hne x1; replace x2 := hK.cell (lt_cell x2) hne x2; replace x3 := hK.cell (lt_cell x3) hne x3; replace x4 := hK.cell (lt_cell x4) hne x4; replace x5 := hK.cell (lt_cell x5) hne x5; replace hbl := hL.out.lt; clear hK)
      | (go_at_call 163; (first | (with_reducible refine (nought1A (by first | rfl | simp) hL.out).mono ?_) | (with_reducible refine (nought2A (by first | rfl | simp) hL.out).mono ?_)); rintro e w1 ⟨rfl, hA, hK⟩; replace hL := Lib.hid hA; clear hA; replace hT := hT.trans (hK.mono hTs); replace hTs := Nat.le_trans hTs hK.size; replace x0 := hK.cell (lt_cell x0) hne x0; replace x1 := hK.cell (lt_cell x1) hne x1; replace x2 := hK.cell (lt_cell x2) hne x2; replace x3 := hK.cell (lt_cell x3) hne x3; replace x4 := hK.cell (lt_cell x4) hne x4; replace x5 := hK.cell (lt_cell x5) hne x5; replace hbl := hL.out.lt; clear hK)
      | (go_at_call 164; (first | (with_reducible refine (atA hL.out hd1 hd2).mono ?_)); rintro e w1 ⟨rfl, hA, hK⟩; replace hL := Lib.hid hA; clear hA; replace hT := hT.trans (hK.mono hTs); replace hTs := Nat.le_trans hTs hK.size; replace x0 := hK.cell (lt_cell x0) hne x0; replace x1 := hK.cell (lt_cell x1) hne x1; replace x2 := hK.cell (lt_cell x2) hne x2; replace x3 := hK.cell (lt_cell x3) hne x3; replace x4 := hK.cell (lt_cell x4) hne x4; replace x5 := hK.cell (lt_cell x5) hne x5; replace hbl := hL.out.lt; clear hK)
      | (go_at_call 206; (first | (with_reducible refine (clsA hL.out hc1 hc2).mono ?_)); rintro e w1 ⟨rfl, hA, hK⟩; replace hL := Lib.hid hA; clear hA; replace hT := hT.trans (hK.mono hTs); replace hTs := Nat.le_trans hTs hK.size; replace x0 := hK.cell (lt_cell x0) hne x0; replace x1 := hK.cell (lt_cell x1) hne x1; replace x2 := hK.cell (lt_cell x2) hne x2; replace x3 := hK.cell (lt_cell x3) hne x3; replace x4 := hK.cell (lt_cell x4) hne x4; replace x5 := hK.cell (lt_cell x5) hne x5; replace hbl := hL.out.lt; clear hK)
      | (go_at_call 110; refine (lin _ _ _ _).mono ?_; rintro e w1 ⟨rfl, rfl⟩))
        go_ret
        rw [hXY.out]
        exact got_eq hL.out hT (by simp)
      · clear hn
        go_wp2_with fail
        refine (mustA (by first | rfl | simp) hL.out).mono ?_
        rintro e w2 ⟨rfl, hA, hK⟩
        replace hL := Lib.hid hA; clear hA; replace hT := hT.trans (hK.mono hTs); replace hTs := Nat.le_trans hTs hK.size; replace x0 := hK.cell (lt_cell x0) hne x0; replace x1 := hK.cell (lt_cell x1) hne x1; replace x2 := hK.cell (lt_cell x2) hne x2; replace x3 := hK.cell (lt_cell x3) hne x3; replace x4 := hK.cell (lt_cell x4) hne x4; replace x5 := hK.cell (lt_cell x5) hne x5; replace hbl := hL.out.lt; clear hK
        simp only [Bool.and_false] at hL
        have z10 := hL.out.2.2.1
        go_wp2_with (first
      | (go_at_call 161; (first | (with_reducible refine (mustA (by first | rfl | simp) hL.out).mono ?_)); rintro e w1 ⟨rfl, hA, hK⟩; replace hL := Lib.hid hA; clear hA; replace hT := hT.trans (hK.mono hTs); replace hTs := Nat.le_trans hTs hK.size; replace x0 := hK.cell (lt_cell x0) hne x0; replace x1 := hK.cell (lt_cell x1) hne x1; replace x2 := hK.cell (lt_cell x2) hne x2; replace x3 := hK.cell (lt_cell x3) hne x3; replace x4 := hK.cell (lt_cell x4) hne x4; replace x5 := hK.cell (lt_cell x5) hne x5; replace hbl := hL.out.lt; clear hK)
      | (go_at_call 162; (first | (with_reducible refine (reg1A (by first | rfl | simp) hL.out (by first | with_reducible assumption | (unfold Ok; omega)) hr).mono ?_) | (with_reducible refine (reg2A (by first | rfl | simp) hL.out (by first | with_reducible assumption | (unfold Ok; omega)) hr).mono ?_) | (with_reducible refine (reg3A (by first | rfl | simp) hL.out (by first | with_reducible assumption | (unfold Ok; omega)) hr).mono ?_)); rintro e w1 ⟨rfl, hA, hK⟩; replace hL := Lib.hid hA; clear hA; replace hT := hT.trans (hK.mono hTs); replace hTs := Nat.le_trans hTs hK.size; replace x0 := hK.cell (lt_cell x0) hne x0; replace x1 := hK.cell (lt_cell x1) hne x1; replace x2 := hK.cell (lt_cell x2) hne x2; replace x3 := hK.cell (lt_cell x3) hne x3; replace x4 := hK.cell (lt_cell x4) hne x4; replace x5 := hK.cell (lt_cell x5) hne x5; replace hbl := hL.out.lt; clear hK)
      | (go_at_call 163; (first | (with_reducible refine (nought1A (by first | rfl | simp) hL.out).mono ?_) | (with_reducible refine (nought2A (by first | rfl | simp) hL.out).mono ?_)); rintro e w1 ⟨rfl, hA, hK⟩; replace hL := Lib.hid hA; clear hA; replace hT := hT.trans (hK.mono hTs); replace hTs := Nat.le_trans hTs hK.size; replace x0 := hK.cell (lt_cell x0) hne x0; replace x1 := hK.cell (lt_cell x1) hne x1; replace x2 := hK.cell (lt_cell x2) hne x2; replace x3 := hK.cell (lt_cell x3) hne x3; replace x4 := hK.cell (lt_cell x4) hne x4; replace x5 := hK.cell (lt_cell x5) hne x5; replace hbl := hL.out.lt; clear hK)
      | (go_at_call 164; (first | (with_reducible refine (atA hL.out hd1 hd2).mono ?_)); rintro e w1 ⟨rfl, hA, hK⟩; replace hL := Lib.hid hA; clear hA; replace hT := hT.trans (hK.mono hTs); replace hTs := Nat.le_trans hTs hK.size; replace x0 := hK.cell (lt_cell x0) hne x0; replace x1 := hK.cell (lt_cell x1) hne x1; replace x2 := hK.cell (lt_cell x2) hne x2; replace x3 := hK.cell (lt_cell x3) hne x3; replace x4 := hK.cell (lt_cell x4) hne x4; replace x5 := hK.cell (lt_cell x5) hne x5; replace hbl := hL.out.lt; clear hK)
      | (go_at_call 206; (first | (with_reducible refine (clsA hL.out hc1 hc2).mono ?_)); rintro e w1 ⟨rfl, hA, hK⟩; replace hL := Lib.hid hA; clear hA; replace hT := hT.trans (hK.mono hTs); replace hTs := Nat.le_trans hTs hK.size; replace x0 := hK.cell (lt_cell x0) hne x0; replace x1 := hK.cell (lt_cell x1) hne x1; replace x2 := hK.cell (lt_cell x2) hne x2; replace x3 := hK.cell (lt_cell x3) hne x3; replace x4 := hK.cell (lt_cell x4) hne x4; replace x5 := hK.cell (lt_cell x5) hne x5; replace hbl := hL.out.lt; clear hK)
      | (go_at_call 110; refine (lin _ _ _ _).mono ?_; rintro e w1 ⟨rfl, rfl⟩))
        go_ret
        rw [hXY.out]
        exact got_eq hL.out hT (by simp)
set_option maxRecDepth 100000 in
set_option maxHeartbeats 4000000 in
theorem more15 (f : Fi) (m : Me) (a b c n : Int) (args : List Int) (ok : Bool) (lb : Nat) (ca : Option Addr) (ccap : Nat) (vm vp : Value) (da : Option Addr) (dcap : Nat) (vh : Value) (aa : Option Addr) (acap : Nat) (w : World)
    (h : Lk w lb (.slice ca f.classes.length ccap) vm vp (.slice da m.code.length dcap) vh m ok) (hF : Fit f m f.classes.length ccap dcap) (oks : Ok a ∧ Ok b ∧ Ok c ∧ Ok n) (ha : args.length ≤ acap ∧ acap ≤ 9223372036854775807) (B0 : Nat) (hB : B0 ≤ lb) (hcl : Sl 2 ECls w B0 (.slice ca f.classes.length ccap) f.classes) :
    Calls Try.prog 165 #[.pointer (some ⟨lb, 0, none⟩), .agg #[.int .i64 15, .int .i64 a, .int .i64 b, .int .i64 c, .int .i64 n, .slice aa args.length acap]] w
      (Got w lb (.slice ca f.classes.length ccap) vm vp (.slice da m.code.length dcap) vh m (moreX f m ok ⟨15, a, b, c, n, args⟩)) := by
  obtain ⟨hc1, hc2, hd1, hd2, hr⟩ := hF
  obtain ⟨oa, ob, oc, on⟩ := oks
  obtain ⟨ha1, ha2⟩ := ha
  obtain ⟨hr1, hr2⟩ := hr
  have hr : 0 ≤ m.regs ∧ m.regs ≤ 90 := ⟨hr1, hr2⟩
  have hlt := h.lt
  have hne : w.heap.size ≠ lb := by omega
  have hL := Lib.hid (h.next (Below.alloc (Below.refl _ _) (Nat.le_refl _) (.cells #[.int .i64 15, .int .i64 a, .int .i64 b, .int .i64 c, .int .i64 n, .slice aa args.length acap] 63)) h.lt)
  have hT : Keep w.heap.size lb w (w.alloc (.cells #[.int .i64 15, .int .i64 a, .int .i64 b, .int .i64 c, .int .i64 n, .slice aa args.length acap] 63)) := Keep.alloc (Keep.refl _ _ _) (Nat.le_refl _) _
  have hTs := hT.size
  have hbl := hL.out.lt
  have x0 : (w.alloc (.cells #[.int .i64 15, .int .i64 a, .int .i64 b, .int .i64 c, .int .i64 n, .slice aa args.length acap] 63)).cell? ⟨w.heap.size, 0, none⟩ = some (.int .i64 15) := by go_simp
  have x1 : (w.alloc (.cells #[.int .i64 15, .int .i64 a, .int .i64 b, .int .i64 c, .int .i64 n, .slice aa args.length acap] 63)).cell? ⟨w.heap.size, 1, none⟩ = some (.int .i64 a) := by go_simp
  have x2 : (w.alloc (.cells #[.int .i64 15, .int .i64 a, .int .i64 b, .int .i64 c, .int .i64 n, .slice aa args.length acap] 63)).cell? ⟨w.heap.size, 2, none⟩ = some (.int .i64 b) := by go_simp
  have x3 : (w.alloc (.cells #[.int .i64 15, .int .i64 a, .int .i64 b, .int .i64 c, .int .i64 n, .slice aa args.length acap] 63)).cell? ⟨w.heap.size, 3, none⟩ = some (.int .i64 c) := by go_simp
  have x4 : (w.alloc (.cells #[.int .i64 15, .int .i64 a, .int .i64 b, .int .i64 c, .int .i64 n, .slice aa args.length acap] 63)).cell? ⟨w.heap.size, 4, none⟩ = some (.int .i64 n) := by go_simp
  have x5 : (w.alloc (.cells #[.int .i64 15, .int .i64 a, .int .i64 b, .int .i64 c, .int .i64 n, .slice aa args.length acap] 63)).cell? ⟨w.heap.size, 5, none⟩ = some (.slice aa args.length acap) := by go_simp
  clear h
  go_enter Try.func165, Try.ntmps165
  go_wp2_with fail
  refine (clsA hL.out hc1 hc2).mono ?_
  rintro e w1 ⟨rfl, hA, hK⟩
  replace hL := Lib.hid hA; clear hA; replace hT := hT.trans (hK.mono hTs); replace hTs := Nat.le_trans hTs hK.size; replace x0 := hK.cell (lt_cell x0) hne x0; replace x1 := hK.cell (lt_cell x1) hne x1; replace x2 := hK.cell (lt_cell x2) hne x2; replace x3 := hK.cell (lt_cell x3) hne x3; replace x4 := hK.cell (lt_cell x4) hne x4; replace x5 := hK.cell (lt_cell x5) hne x5; replace hbl := hL.out.lt; clear hK
  obtain ⟨q, hq⟩ : ∃ q, Hid ((ok && Form.rng c 0 f.classes.length) = q) := ⟨_, rfl⟩
  rw [hq.out] at hL
  have z10 := hL.out.2.2.1
  cases q
  · have hX : Hid (moreX f m ok ⟨15, a, b, c, n, args⟩ = false) := by
      show _ = _
      have h := hq.out
      rw [Bool.and_eq_false_iff] at h
      rcases h with h | h <;> simp [moreX, Rform.body, h]
    go_wp2_with fail
    go_ret
    rw [hX.out]
    exact got_eq hL.out hT (by simp)
  · have hq2 := hq.out
    rw [Bool.and_eq_true] at hq2
    obtain ⟨hok, hrc⟩ := hq2
    have hr2 : 0 ≤ c ∧ c < f.classes.length := by simpa [Form.rng] using hrc
    obtain ⟨k, rfl⟩ := Int.eq_ofNat_of_zero_le hr2.1
    have hk : k < f.classes.length := by omega
    obtain ⟨ca', ccap', hca, _, _, cel⟩ := hcl
    injection hca with hca1 hca2 hca3
    subst hca1
    obtain ⟨b0, o0, rfl, hb0, he⟩ := cel k hk
    have hnf : Hid (Form.nf f.classes (k : Int) = (f.classes[k]).fields.length) := by
      show _ = _
      rw [Form.nf, Int.toNat_natCast, Hier.at_eq hk]
    have hfk : Hid (∀ j : Nat, Rform.fk f.classes (k : Int) (j : Int) = ((f.classes[k]).fields.getD j ⟨0, 0⟩).kind) := by
      intro j
      rw [Rform.fk, Int.toNat_natCast, Int.toNat_natCast, Hier.at_eq hk]
    obtain ⟨x, hx⟩ := at_of hk
    rw [hx.out] at he hnf hfk
    obtain ⟨_, _, fv, g3, fa, fcap, rfl, flc, fcc, fel⟩ := he
    have hb0' : b0 < w.heap.size := by omega
    have g4 := hT.cell hb0' (by omega) g3
    have y0 := hL.out.1.1
    have hk0 : (0 : Int) ≤ (k : Int) ∧ (k : Int) < f.classes.length := ⟨by omega, by omega⟩
    have hXX : Hid (∀ p : Bool, p = (Form.rng n 0 x.fields.length && Rform.reg m.regs a (Rform.fk f.classes k n) && Rform.reg m.regs b 3) → moreX f m ok ⟨15, a, b, (k : Int), n, args⟩ = p) := by
      intro p hp
      subst hp
      have h := hnf.out
      simp [moreX, Rform.body, Rform.num, hok, hrc, h]
    clear cel hrc hr2 g3 hq hca2 hca3
    go_wp2_with fail
    refine wp_region_held_drew (S := fun w' => w'.cell? ⟨lb, 0, none⟩ = some (.slice (some ⟨b0, o0, none⟩) f.classes.length ccap) ∧ w'.cell? ⟨w.heap.size, 3, none⟩ = some (.int .i64 (k : Int)) ∧ w'.cell? ⟨b0, o0 + k * 2 + 1, none⟩ = some (.slice fa x.fields.length fcap)) (by kernel_rfl) (by (try dsimp only); first | exact ⟨y0, x3, g4⟩ | go_keep) (fun hHeld => ?_)
    refine Drawn.tk 0 (some 43) rfl rfl (by assumption) ?_
    try simp only [Act.put, List.setIfInBounds_toArray, List.set_cons_zero, List.set_cons_succ]
    refine Drawn.tk 1 (some 44) rfl rfl (by assumption) ?_
    try simp only [Act.put, List.setIfInBounds_toArray, List.set_cons_zero, List.set_cons_succ]
    refine Drawn.tk 2 (some 45) rfl rfl (by assumption) ?_
    try simp only [Act.put, List.setIfInBounds_toArray, List.set_cons_zero, List.set_cons_succ]
    refine Drawn.tk 3 (some 46) rfl rfl (by assumption) ?_
    try simp only [Act.put, List.setIfInBounds_toArray, List.set_cons_zero, List.set_cons_succ]
    refine Drawn.tk 4 (some 47) rfl rfl (by assumption) ?_
    try simp only [Act.put, List.setIfInBounds_toArray, List.set_cons_zero, List.set_cons_succ]
    refine Drawn.tk 5 (some 48) rfl rfl (by assumption) ?_
    try simp only [Act.put, List.setIfInBounds_toArray, List.set_cons_zero, List.set_cons_succ]
    refine Drawn.tk 6 (some 49) rfl rfl (by assumption) ?_
    try simp only [Act.put, List.setIfInBounds_toArray, List.set_cons_zero, List.set_cons_succ]
    refine Drawn.tk 7 (some 50) rfl rfl (by assumption) ?_
    try simp only [Act.put, List.setIfInBounds_toArray, List.set_cons_zero, List.set_cons_succ]
    refine Drawn.tk 8 (some 51) rfl rfl (by assumption) ?_
    try simp only [Act.put, List.setIfInBounds_toArray, List.set_cons_zero, List.set_cons_succ]
    refine Drawn.tk 9 (some 52) rfl rfl (by assumption) ?_
    try simp only [Act.put, List.setIfInBounds_toArray, List.set_cons_zero, List.set_cons_succ]
    refine Drawn.tk 10 (some 5) rfl rfl (by assumption) ?_
    try simp only [Act.put, List.setIfInBounds_toArray, List.set_cons_zero, List.set_cons_succ]
    refine wpAnyH_done (by kernel_rfl) ?_ _
    have fcI : (x.fields.length : Int) ≤ 9223372036854775807 := by omega
    replace hL := Lib.hid (hL.out.next (Below.drew (Below.refl _ _)) hbl)
    replace hT := Keep.drew hT
    have HX := hXX
    by_cases hn : 0 ≤ n ∧ n < x.fields.length
    · obtain ⟨hn0, hn1⟩ := hn
      obtain ⟨j, rfl⟩ := Int.eq_ofNat_of_zero_le hn0
      have hj : j < x.fields.length := by omega
      have hrn : Form.rng (j : Int) 0 x.fields.length = true := by simp [Form.rng]; omega
      obtain ⟨fb, fo, rfl, hfb, hfe⟩ := fel j hj
      have hfk2 : Hid (Rform.fk f.classes (k : Int) (j : Int) = (x.fields[j]).kind) := by
        show _ = _
        rw [hfk.out j]; simp [hj]
      obtain ⟨t, ht⟩ := at_of hj
      rw [ht.out] at hfe hfk2
      obtain ⟨e1, _, okk, _⟩ := hfe
      have hXY := Lib.hid (hXX.out _ rfl)
      rw [hrn, hfk2.out] at hXY
      have HRN := Lib.hid hrn
      have hnI : (0 : Int) ≤ (j : Int) ∧ (j : Int) < x.fields.length := ⟨by omega, by omega⟩
      have e4 := hT.cell (by omega) (by omega) e1
      clear hrn fel e1
      go_wp2_with fail
      refine (mustA (by first | rfl | simp) hL.out).mono ?_
      rintro e w2 ⟨rfl, hA, hK⟩
      replace e4 := hK.cell (lt_cell e4) (by omega) e4
      replace hL := Lib.hid hA; clear hA; replace hT := hT.trans (hK.mono hTs); replace hTs := Nat.le_trans hTs hK.size; replace x0 := hK.cell (lt_cell x0) hne x0; replace x1 := hK.cell (lt_cell x1) hne x1; replace x2 := hK.cell (lt_cell x2) hne x2; replace x3 := hK.cell (lt_cell x3) hne x3; replace x4 := hK.cell (lt_cell x4) hne x4; replace x5 := hK.cell (lt_cell x5) hne x5; replace hbl := hL.out.lt; clear hK
      simp only [Bool.and_true] at hL
      have z10 := hL.out.2.2.1
      go_wp2_with fail
      refine wp_region_held_drew (S := fun w' => w'.cell? ⟨w.heap.size, 4, none⟩ = some (.int .i64 (j : Int)) ∧ w'.cell? ⟨w.heap.size, 1, none⟩ = some (.int .i64 a) ∧ w'.cell? ⟨fb, fo + j * 2, none⟩ = some (.int .i64 t.kind)) (by kernel_rfl) (by (try dsimp only); first | exact ⟨x4, x1, e4⟩ | go_keep) (fun hHeld => ?_)
      refine Drawn.tk 0 (some 70) rfl rfl (by assumption) ?_
      try simp only [Act.put, List.setIfInBounds_toArray, List.set_cons_zero, List.set_cons_succ]
      refine Drawn.tk 1 (some 71) rfl rfl (by assumption) ?_
      try simp only [Act.put, List.setIfInBounds_toArray, List.set_cons_zero, List.set_cons_succ]
      refine Drawn.tk 2 (some 72) rfl rfl (by assumption) ?_
      try simp only [Act.put, List.setIfInBounds_toArray, List.set_cons_zero, List.set_cons_succ]
      refine Drawn.tk 3 (some 73) rfl rfl (by assumption) ?_
      try simp only [Act.put, List.setIfInBounds_toArray, List.set_cons_zero, List.set_cons_succ]
      refine Drawn.tk 4 (some 74) rfl rfl (by assumption) ?_
      try simp only [Act.put, List.setIfInBounds_toArray, List.set_cons_zero, List.set_cons_succ]
      refine Drawn.tk 5 (some 75) rfl rfl (by assumption) ?_
      try simp only [Act.put, List.setIfInBounds_toArray, List.set_cons_zero, List.set_cons_succ]
      refine Drawn.tk 6 (some 76) rfl rfl (by assumption) ?_
      try simp only [Act.put, List.setIfInBounds_toArray, List.set_cons_zero, List.set_cons_succ]
      refine Drawn.tk 7 (some 77) rfl rfl (by assumption) ?_
      try simp only [Act.put, List.setIfInBounds_toArray, List.set_cons_zero, List.set_cons_succ]
      refine Drawn.tk 8 (some 78) rfl rfl (by assumption) ?_
      try simp only [Act.put, List.setIfInBounds_toArray, List.set_cons_zero, List.set_cons_succ]
      have hl4 := lt_cell e4
      have hlx := lt_cell x4
      refine wpAnyH_ready (rs := [9]) (by kernel_rfl) (by simp) ?_
      refine AllReadyH.cons rfl (fun K hK => ?_) AllReadyH.nil
      go_simp
      refine hK.out _ _ (by (try dsimp only); go_simp) (fun hHeld => ?_)
      clear hK K
      try simp only [Act.put, List.setIfInBounds_toArray, List.set_cons_zero, List.set_cons_succ]
      refine wpAnyH_ready (rs := [10]) (by kernel_rfl) (by simp) ?_
      refine AllReadyH.cons rfl (fun K hK => ?_) AllReadyH.nil
      go_simp
      with_reducible refine (reg1D (by first | rfl | simp) hL.out okk hr).mono ?_
      rintro e w3 ⟨rfl, hA, hK5⟩
      replace e4 := hK5.cell (lt_cell e4) (by omega) e4
      replace hL := Lib.hid hA; clear hA; replace hT := hT.trans (hK5.mono hTs); replace hTs := Nat.le_trans hTs hK5.size; replace x0 := hK5.cell (lt_cell x0) hne x0; replace x1 := hK5.cell (lt_cell x1) hne x1; replace x2 := hK5.cell (lt_cell x2) hne x2; replace x3 := hK5.cell (lt_cell x3) hne x3; replace x4 := hK5.cell (lt_cell x4) hne x4; replace x5 := hK5.cell (lt_cell x5) hne x5; replace hbl := hL.out.lt; clear hK5
      go_wp2_with fail
      refine hK.out _ _ (by (try dsimp only); exact ⟨x4, x1, e4⟩) (fun hHeld => ?_)
      clear hK K
      try simp only [Act.put, List.setIfInBounds_toArray, List.set_cons_zero, List.set_cons_succ]
      refine wpAnyH_done (by kernel_rfl) ?_ _
      go_wp2_with (first
      | (go_at_call 161; (first | (with_reducible refine (mustA (by first | rfl | simp) hL.out).mono ?_)); rintro e w1 ⟨rfl, hA, hK⟩; replace hL := Lib.hid hA; clear hA; replace hT := hT.trans (hK.mono hTs); replace hTs := Nat.le_trans hTs hK.size; replace x0 := hK.cell (lt_cell x0) hne x0; replace x1 := hK.cell (lt_cell x1) hne x1; replace x2 := hK.cell (lt_cell x2) hne x2; replace x3 := hK.cell (lt_cell x3) hne x3; replace x4 := hK.cell (lt_cell x4) hne x4; replace x5 := hK.cell (lt_cell x5) hne x5; replace hbl := hL.out.lt; clear hK)
      | (go_at_call 162; (first | (with_reducible refine (reg1A (by first | rfl | simp) hL.out (by first | with_reducible assumption | (unfold Ok; omega)) hr).mono ?_) | (with_reducible refine (reg2A (by first | rfl | simp) hL.out (by first | with_reducible assumption | (unfold Ok; omega)) hr).mono ?_) | (with_reducible refine (reg3A (by first | rfl | simp) hL.out (by first | with_reducible assumption | (unfold Ok; omega)) hr).mono ?_)); rintro e w1 ⟨rfl, hA, hK⟩; replace hL := Lib.hid hA; clear hA; replace hT := hT.trans (hK.mono hTs); replace hTs := Nat.le_trans hTs hK.size; replace x0 := hK.cell (lt_cell x0) hne x0; replace x1 := hK.cell (lt_cell x1) hne x1; replace x2 := hK.cell (lt_cell x2) hne x2; replace x3 := hK.cell (lt_cell x3) hne x3; replace x4 := hK.cell (lt_cell x4) hne x4; replace x5 := hK.cell (lt_cell x5) hne x5; replace hbl := hL.out.lt; clear hK)
      | (go_at_call 163; (first | (with_reducible refine (nought1A (by first | rfl | simp) hL.out).mono ?_) | (with_reducible refine (nought2A (by first | rfl | simp) hL.out).mono ?_)); rintro e w1 ⟨rfl, hA, hK⟩; replace hL := Lib.hid hA; clear hA; replace hT := hT.trans (hK.mono hTs); replace hTs := Nat.le_trans hTs hK.size; replace x0 := hK.cell (lt_cell x0) hne x0; replace x1 := hK.cell (lt_cell x1) hne x1; replace x2 := hK.cell (lt_cell x2) hne x2; replace x3 := hK.cell (lt_cell x3) hne x3; replace x4 := hK.cell (lt_cell x4) hne x4; replace x5 := hK.cell (lt_cell x5) hne x5; replace hbl := hL.out.lt; clear hK)
      | (go_at_call 164; (first | (with_reducible refine (atA hL.out hd1 hd2).mono ?_)); rintro e w1 ⟨rfl, hA, hK⟩; replace hL := Lib.hid hA; clear hA; replace hT := hT.trans (hK.mono hTs); replace hTs := Nat.le_trans hTs hK.size; replace x0 := hK.cell (lt_cell x0) hne x0; replace x1 := hK.cell (lt_cell x1) hne x1; replace x2 := hK.cell (lt_cell x2) hne x2; replace x3 := hK.cell (lt_cell x3) hne x3; replace x4 := hK.cell (lt_cell x4) hne x4; replace x5 := hK.cell (lt_cell x5) hne x5; replace hbl := hL.out.lt; clear hK)
      | (go_at_call 206; (first | (with_reducible refine (clsA hL.out hc1 hc2).mono ?_)); rintro e w1 ⟨rfl, hA, hK⟩; replace hL := Lib.hid hA; clear hA; replace hT := hT.trans (hK.mono hTs); replace hTs := Nat.le_trans hTs hK.size; replace x0 := hK.cell (lt_cell x0) hne x0; replace x1 := hK.cell (lt_cell x1) hne x1; replace x2 := hK.cell (lt_cell x2) hne x2; replace x3 := hK.cell (lt_cell x3) hne x3; replace x4 := hK.cell (lt_cell x4) hne x4; replace x5 := hK.cell (lt_cell x5) hne x5; replace hbl := hL.out.lt; clear hK)
      | (go_at_call 110; refine (lin _ _ _ _).mono ?_; rintro e w1 ⟨rfl, rfl⟩))
      go_ret
      rw [hXY.out]
      exact got_eq hL.out hT (by simp)
    · have hrn : Form.rng n 0 x.fields.length = false := by simp [Form.rng]; omega
      have hXY := Lib.hid (hXX.out _ rfl)
      rw [hrn] at hXY
      by_cases hn0 : 0 ≤ n
      · have hn1 : ¬ n < (x.fields.length : Int) := by omega
        clear hn
        go_wp2_with fail
        refine (mustA (by first | rfl | simp) hL.out).mono ?_
        rintro e w2 ⟨rfl, hA, hK⟩
        replace hL := Lib.hid hA; clear hA; replace hT := hT.trans (hK.mono hTs); replace hTs := Nat.le_trans hTs hK.size; replace x0 := hK.cell (lt_cell x0) hne x0; replace x1 := hK.cell (lt_cell x1) hne x1; replace x2 := hK.cell (lt_cell x2) hne x2; replace x3 := hK.cell (lt_cell x3) hne x3; replace x4 := hK.cell (lt_cell x4) hne x4; replace x5 := hK.cell (lt_cell x5) hne x5; replace hbl := hL.out.lt; clear hK
        simp only [Bool.and_false] at hL
        have z10 := hL.out.2.2.1
        go_wp2_with (first
      | (go_at_call 161; (first | (with_reducible refine (mustA (by first | rfl | simp) hL.out).mono ?_)); rintro e w1 ⟨rfl, hA, hK⟩; replace hL := Lib.hid hA; clear hA; replace hT := hT.trans (hK.mono hTs); replace hTs := Nat.le_trans hTs hK.size; replace x0 := hK.cell (lt_cell x0) hne x0; replace x1 := hK.cell (lt_cell x1) hne x1; replace x2 := hK.cell (lt_cell x2) hne x2; replace x3 := hK.cell (lt_cell x3) hne x3; replace x4 := hK.cell (lt_cell x4) hne x4; replace x5 := hK.cell (lt_cell x5) hne x5; replace hbl := hL.out.lt; clear hK)
      | (go_at_call 162; (first | (with_reducible refine (reg1A (by first | rfl | simp) hL.out (by first | with_reducible assumption | (unfold Ok; omega)) hr).mono ?_) | (with_reducible refine (reg2A (by first | rfl | simp) hL.out (by first | with_reducible assumption | (unfold Ok; omega)) hr).mono ?_) | (with_reducible refine (reg3A (by first | rfl | simp) hL.out (by first | with_reducible assumption | (unfold Ok; omega)) hr).mono ?_)); rintro e w1 ⟨rfl, hA, hK⟩; replace hL := Lib.hid hA; clear hA; replace hT := hT.trans (hK.mono hTs); replace hTs := Nat.le_trans hTs hK.size; replace x0 := hK.cell (lt_cell x0) hne x0; replace x1 := hK.cell (lt_cell x1) hne x1; replace x2 := hK.cell (lt_cell x2) hne x2; replace x3 := hK.cell (lt_cell x3) hne x3; replace x4 := hK.cell (lt_cell x4) hne x4; replace x5 := hK.cell (lt_cell x5) hne x5; replace hbl := hL.out.lt; clear hK)
      | (go_at_call 163; (first | (with_reducible refine (nought1A (by first | rfl | simp) hL.out).mono ?_) | (with_reducible refine (nought2A (by first | rfl | simp) hL.out).mono ?_)); rintro e w1 ⟨rfl, hA, hK⟩; replace hL := Lib.hid hA; clear hA; replace hT := hT.trans (hK.mono hTs); replace hTs := Nat.le_trans hTs hK.size; replace x0 := hK.cell (lt_cell x0) hne x0; replace x1 := hK.cell (lt_cell x1) hne x1; replace x2 := hK.cell (lt_cell x2) hne x2; replace x3 := hK.cell (lt_cell x3) hne x3; replace x4 := hK.cell (lt_cell x4) hne x4; replace x5 := hK.cell (lt_cell x5) hne x5; replace hbl := hL.out.lt; clear hK)
      | (go_at_call 164; (first | (with_reducible refine (atA hL.out hd1 hd2).mono ?_)); rintro e w1 ⟨rfl, hA, hK⟩; replace hL := Lib.hid hA; clear hA; replace hT := hT.trans (hK.mono hTs); replace hTs := Nat.le_trans hTs hK.size; replace x0 := hK.cell (lt_cell x0) hne x0; replace x1 := hK.cell (lt_cell x1) hne x1; replace x2 := hK.cell (lt_cell x2) hne x2; replace x3 := hK.cell (lt_cell x3) hne x3; replace x4 := hK.cell (lt_cell x4) hne x4; replace x5 := hK.cell (lt_cell x5) hne x5; replace hbl := hL.out.lt; clear hK)
      | (go_at_call 206; (first | (with_reducible refine (clsA hL.out hc1 hc2).mono ?_)); rintro e w1 ⟨rfl, hA, hK⟩; replace hL := Lib.hid hA; clear hA; replace hT := hT.trans (hK.mono hTs); replace hTs := Nat.le_trans hTs hK.size; replace x0 := hK.cell (lt_cell x0) hne x0; replace x1 := hK.cell (lt_cell x1) hne x1; replace x2 := hK.cell (lt_cell x2) hne x2; replace x3 := hK.cell (lt_cell x3) hne x3; replace x4 := hK.cell (lt_cell x4) hne x4; replace x5 := hK.cell (lt_cell x5) hne x5; replace hbl := hL.out.lt; clear hK)
      | (go_at_call 110; refine (lin _ _ _ _).mono ?_; rintro e w1 ⟨rfl, rfl⟩))
        go_ret
        rw [hXY.out]
        exact got_eq hL.out hT (by simp)
      · clear hn
        go_wp2_with fail
        refine (mustA (by first | rfl | simp) hL.out).mono ?_
        rintro e w2 ⟨rfl, hA, hK⟩
        replace hL := Lib.hid hA; clear hA; replace hT := hT.trans (hK.mono hTs); replace hTs := Nat.le_trans hTs hK.size; replace x0 := hK.cell (lt_cell x0) hne x0; replace x1 := hK.cell (lt_cell x1) hne x1; replace x2 := hK.cell (lt_cell x2) hne x2; replace x3 := hK.cell (lt_cell x3) hne x3; replace x4 := hK.cell (lt_cell x4) hne x4; replace x5 := hK.cell (lt_cell x5) hne x5; replace hbl := hL.out.lt; clear hK
        simp only [Bool.and_false] at hL
        have z10 := hL.out.2.2.1
        go_wp2_with (first
      | (go_at_call 161; (first | (with_reducible refine (mustA (by first | rfl | simp) hL.out).mono ?_)); rintro e w1 ⟨rfl, hA, hK⟩; replace hL := Lib.hid hA; clear hA; replace hT := hT.trans (hK.mono hTs); replace hTs := Nat.le_trans hTs hK.size; replace x0 := hK.cell (lt_cell x0) hne x0; replace x1 := hK.cell (lt_cell x1) hne x1; replace x2 := hK.cell (lt_cell x2) hne x2; replace x3 := hK.cell (lt_cell x3) hne x3; replace x4 := hK.cell (lt_cell x4) hne x4; replace x5 := hK.cell (lt_cell x5) hne x5; replace hbl := hL.out.lt; clear hK)
      | (go_at_call 162; (first | (with_reducible refine (reg1A (by first | rfl | simp) hL.out (by first | with_reducible assumption | (unfold Ok; omega)) hr).mono ?_) | (with_reducible refine (reg2A (by first | rfl | simp) hL.out (by first | with_reducible assumption | (unfold Ok; omega)) hr).mono ?_) | (with_reducible refine (reg3A (by first | rfl | simp) hL.out (by first | with_reducible assumption | (unfold Ok; omega)) hr).mono ?_)); rintro e w1 ⟨rfl, hA, hK⟩; replace hL := Lib.hid hA; clear hA; replace hT := hT.trans (hK.mono hTs); replace hTs := Nat.le_trans hTs hK.size; replace x0 := hK.cell (lt_cell x0) hne x0; replace x1 := hK.cell (lt_cell x1) hne x1; replace x2 := hK.cell (lt_cell x2) hne x2; replace x3 := hK.cell (lt_cell x3) hne x3; replace x4 := hK.cell (lt_cell x4) hne x4; replace x5 := hK.cell (lt_cell x5) hne x5; replace hbl := hL.out.lt; clear hK)
      | (go_at_call 163; (first | (with_reducible refine (nought1A (by first | rfl | simp) hL.out).mono ?_) | (with_reducible refine (nought2A (by first | rfl | simp) hL.out).mono ?_)); rintro e w1 ⟨rfl, hA, hK⟩; replace hL := Lib.hid hA; clear hA; replace hT := hT.trans (hK.mono hTs); replace hTs := Nat.le_trans hTs hK.size; replace x0 := hK.cell (lt_cell x0) hne x0; replace x1 := hK.cell (lt_cell x1) hne x1; replace x2 := hK.cell (lt_cell x2) hne x2; replace x3 := hK.cell (lt_cell x3) hne x3; replace x4 := hK.cell (lt_cell x4) hne x4; replace x5 := hK.cell (lt_cell x5) hne x5; replace hbl := hL.out.lt; clear hK)
      | (go_at_call 164; (first | (with_reducible refine (atA hL.out hd1 hd2).mono ?_)); rintro e w1 ⟨rfl, hA, hK⟩; replace hL := Lib.hid hA; clear hA; replace hT := hT.trans (hK.mono hTs); replace hTs := Nat.le_trans hTs hK.size; replace x0 := hK.cell (lt_cell x0) hne x0; replace x1 := hK.cell (lt_cell x1) hne x1; replace x2 := hK.cell (lt_cell x2) hne x2; replace x3 := hK.cell (lt_cell x3) hne x3; replace x4 := hK.cell (lt_cell x4) hne x4; replace x5 := hK.cell (lt_cell x5) hne x5; replace hbl := hL.out.lt; clear hK)
      | (go_at_call 206; (first | (with_reducible refine (clsA hL.out hc1 hc2).mono ?_)); rintro e w1 ⟨rfl, hA, hK⟩; replace hL := Lib.hid hA; clear hA; replace hT := hT.trans (hK.mono hTs); replace hTs := Nat.le_trans hTs hK.size; replace x0 := hK.cell (lt_cell x0) hne x0; replace x1 := hK.cell (lt_cell x1) hne x1; replace x2 := hK.cell (lt_cell x2) hne x2; replace x3 := hK.cell (lt_cell x3) hne x3; replace x4 := hK.cell (lt_cell x4) hne x4; replace x5 := hK.cell (lt_cell x5) hne x5; replace hbl := hL.out.lt; clear hK)
      | (go_at_call 110; refine (lin _ _ _ _).mono ?_; rintro e w1 ⟨rfl, rfl⟩))
        go_ret
        rw [hXY.out]
        exact got_eq hL.out hT (by simp)
end Look
end Go.Proofs.Ytncmhenfgbcihab
