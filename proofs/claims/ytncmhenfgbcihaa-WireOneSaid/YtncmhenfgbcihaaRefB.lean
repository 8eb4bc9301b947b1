/- The reference's bytes of a file. -/
import Derived.Test.YtncmhenfgbcihaaRefS
import Derived.Test.YtncmhenfgbcihaaWirePut
import Derived.Deep.CutRange
import Derived.Deep.RegionHeld3
namespace Go.Proofs.Ytncmhenfgbcihaa
open Go.RowKit
set_option linter.unusedSimpArgs false
set_option linter.unusedVariables false
namespace Wire
open Num Rd D Bytes HierW FormW FormR

/-- one byte, as a string -/
theorem conv1 (k : UInt8) (W : World) (nb : Nat) (h : W.cell? ⟨nb, 0, none⟩ = some (.int .u8 k.toNat)) : (convert 50 9 (.slice (some ⟨nb, 0, none⟩) 1 1)).run Try.prog W = .ok (.string (S [k])) W :=
  convS W nb 1 [k] (fun i hi => by
    have : i = 0 := by simp at hi; omega
    subst this; exact h)
/-- a number, as a string -/
theorem numberR (n : Int) (nb : Nat) (w : World) (hc : w.cell? ⟨nb, 0, none⟩ = some (.int .i64 n)) (hok : Ok n) :
    Calls Try.prog 65 #[.slice (some ⟨nb, 0, none⟩) 1 1] w fun e w' => e = .returned (.string (S (Bytes.wide n))) ∧ Below w.heap.size w w' :=
  (numbersR _ [n] w (slInts (nb := nb) (lt_cell' hc) (ints1 hc) (ok1 hok) (by simp)) (by simp)).mono fun e w' ⟨h1, h2⟩ => ⟨by simpa using h1, h2⟩

theorem ints6 {w : World} {nb : Nat} {a b c d e f : Int} (h : w.cell? ⟨nb, 0, none⟩ = some (.int .i64 a) ∧ w.cell? ⟨nb, 1, none⟩ = some (.int .i64 b) ∧ w.cell? ⟨nb, 2, none⟩ = some (.int .i64 c) ∧ w.cell? ⟨nb, 3, none⟩ = some (.int .i64 d) ∧ w.cell? ⟨nb, 4, none⟩ = some (.int .i64 e) ∧ w.cell? ⟨nb, 5, none⟩ = some (.int .i64 f)) : ∀ i (h : i < [a, b, c, d, e, f].length), w.cell? ⟨nb, i, none⟩ = some (.int .i64 [a, b, c, d, e, f][i]) := fun i hi => by
  obtain ⟨h0, h1, h2, h3, h4, h5⟩ := h
  match i, hi with
  | 0, _ => exact h0
  | 1, _ => exact h1
  | 2, _ => exact h2
  | 3, _ => exact h3
  | 4, _ => exact h4
  | 5, _ => exact h5
theorem ok6 {a b c d e f : Int} (h0 : Ok a) (h1 : Ok b) (h2 : Ok c) (h3 : Ok d) (h4 : Ok e) (h5 : Ok f) : ∀ i (h : i < [a, b, c, d, e, f].length), Ok [a, b, c, d, e, f][i] := fun i hi => by
  match i, hi with
  | 0, _ => exact h0
  | 1, _ => exact h1
  | 2, _ => exact h2
  | 3, _ => exact h3
  | 4, _ => exact h4
  | 5, _ => exact h5
theorem numbers4R (a b c d : Int) (nb : Nat) (w : World) (hc : w.cell? ⟨nb, 0, none⟩ = some (.int .i64 a) ∧ w.cell? ⟨nb, 1, none⟩ = some (.int .i64 b) ∧ w.cell? ⟨nb, 2, none⟩ = some (.int .i64 c) ∧ w.cell? ⟨nb, 3, none⟩ = some (.int .i64 d)) (hok : Ok a ∧ Ok b ∧ Ok c ∧ Ok d) :
    Calls Try.prog 65 #[.slice (some ⟨nb, 0, none⟩) 4 4] w fun e w' => e = .returned (.string (S (Bytes.wide a ++ (Bytes.wide b ++ (Bytes.wide c ++ Bytes.wide d))))) ∧ Below w.heap.size w w' :=
  (numbersR _ [a, b, c, d] w (slInts (nb := nb) (lt_cell' hc.1) (ints4 hc) (ok4 hok.1 hok.2.1 hok.2.2.1 hok.2.2.2) (by simp)) (by simp)).mono fun e w' ⟨h1, h2⟩ => ⟨by simpa using h1, h2⟩
theorem numbers6R (a b c d x y : Int) (nb : Nat) (w : World) (hc : w.cell? ⟨nb, 0, none⟩ = some (.int .i64 a) ∧ w.cell? ⟨nb, 1, none⟩ = some (.int .i64 b) ∧ w.cell? ⟨nb, 2, none⟩ = some (.int .i64 c) ∧ w.cell? ⟨nb, 3, none⟩ = some (.int .i64 d) ∧ w.cell? ⟨nb, 4, none⟩ = some (.int .i64 x) ∧ w.cell? ⟨nb, 5, none⟩ = some (.int .i64 y)) (hok : (Ok a ∧ Ok b ∧ Ok c ∧ Ok d ∧ Ok x) ∧ Ok y) :
    Calls Try.prog 65 #[.slice (some ⟨nb, 0, none⟩) 6 6] w fun e w' => e = .returned (.string (S (Bytes.wide a ++ (Bytes.wide b ++ (Bytes.wide c ++ (Bytes.wide d ++ (Bytes.wide x ++ Bytes.wide y))))))) ∧ Below w.heap.size w w' :=
  (numbersR _ [a, b, c, d, x, y] w (slInts (nb := nb) (lt_cell' hc.1) (ints6 hc) (ok6 hok.1.1 hok.1.2.1 hok.1.2.2.1 hok.1.2.2.2.1 hok.1.2.2.2.2 hok.2) (by simp)) (by simp)).mono fun e w' ⟨h1, h2⟩ => ⟨by simpa using h1, h2⟩
theorem allocK {w : World} {b o : Nat} {v : Value} (h : w.cell? ⟨b, o, none⟩ = some v) (x : Obj) : (w.alloc x).cell? ⟨b, o, none⟩ = some v := by rw [World.cell?_alloc_lt (h := lt_cell' h)]; exact h

set_option maxRecDepth 100000 in
set_option maxHeartbeats 8000000 in
theorem bytesR (f : Fi) (vf : Value) (k : UInt8) (w : World) (hf : VFi w w.heap.size vf f) (hk : Bytes.form f = k.toNat) (hne : Bytes.form f ≠ 0) :
    Calls Try.prog 35 #[vf] w fun e w' => e = .returned (.string (S (k :: fiB f))) ∧ Below w.heap.size w w' := by
  have hf0 := Lib.hid hf
  have hlen := fi_len hne
  have hlc : (lst clB f.classes).length + (lst meB f.methods).length ≤ 2000000 := by simpa [fiB] using hlen
  obtain ⟨vc, vme, rfl, s1, s2⟩ := hf
  have S1 := Lib.hid s1; have S2 := Lib.hid s2
  obtain ⟨ca, ccap, hva, hc1, hc2, _⟩ := s1
  subst hva
  obtain ⟨ma, mcap, hva, hm1, hm2, _⟩ := s2
  subst hva
  have HK := Lib.hid hk
  clear hk hne hlen
  go_enter Try.func35, Try.ntmps35
  go_wp2_with fail
  refine (rform12 f _ _ (hf0.out.mono (by repeat' (first | with_reducible exact Below.refl _ _ | with_reducible assumption | exact Nat.le_refl _ | with_reducible refine Go.Proofs.Ytncmhenfgbcihaa.Rd.below_drewN ?_ _ | with_reducible refine Below.alloc ?_ ?_ _ | with_reducible refine Below.setCell ?_ ?_ _ | with_reducible refine Below.drew ?_ | omega | (simp; omega) | (simp; done))) (by simp))).mono ?_
  rw [HK.out]
  rintro e w1 ⟨rfl, hb1⟩
  have y0 : w1.cell? ⟨w.heap.size, 0, none⟩ = some (.slice ca f.classes.length ccap) := kept hb1 (by simp) (by go_simp)
  have y1 : w1.cell? ⟨w.heap.size, 1, none⟩ = some (.slice ma f.methods.length mcap) := kept hb1 (by simp) (by go_simp)
  have hw1 : Below w.heap.size w w1 := Below.trans (by repeat' (first | with_reducible exact Below.refl _ _ | with_reducible assumption | exact Nat.le_refl _ | with_reducible refine Go.Proofs.Ytncmhenfgbcihaa.Rd.below_drewN ?_ _ | with_reducible refine Below.alloc ?_ ?_ _ | with_reducible refine Below.setCell ?_ ?_ _ | with_reducible refine Below.drew ?_ | omega | (simp; omega) | (simp; done))) (hb1.mono (by simp))
  have hlt1 : w.heap.size < w1.heap.size := lt_cell' y0
  have HW1 := Lib.hid hw1
  have hkw : IntKind.u8.wrap (k.toNat : Int) = k.toNat := by rw [wrap_u8]; have := k.toNat_lt; omega
  have hcl := Lib.hid (show Ok (f.classes.length : Int) by unfold Ok; omega)
  have hcv := conv1 k
  clear hb1 hw1
  go_wp2_with fail
  go_cut [4] from 14 to 23 (fun s4 wx => s4 = .string (S (k :: Bytes.wide f.classes.length)) ∧ Hid (Below w.heap.size w wx) ∧ wx.cell? ⟨w.heap.size, 0, none⟩ = some (.slice ca f.classes.length ccap) ∧ wx.cell? ⟨w.heap.size, 1, none⟩ = some (.slice ma f.methods.length mcap))
  case first =>
    refine wp_region_held_drew (S := fun w' => w'.cell? ⟨w.heap.size, 0, none⟩ = some (.slice ca f.classes.length ccap) ∧ w'.cell? ⟨w.heap.size, 1, none⟩ = some (.slice ma f.methods.length mcap)) (by kernel_rfl) (by (try dsimp only); exact ⟨y0, y1⟩) (fun hHeld => ?_)
    refine Drawn.tk 0 (some 14) rfl rfl (by assumption) ?_
    try simp only [Act.put, List.setIfInBounds_toArray, List.set_cons_zero, List.set_cons_succ]
    refine Drawn.tk 1 (some 15) rfl rfl (by assumption) ?_
    try simp only [Act.put, List.setIfInBounds_toArray, List.set_cons_zero, List.set_cons_succ]
    refine Drawn.tk 4 (some 18) rfl rfl (by assumption) ?_
    try simp only [Act.put, List.setIfInBounds_toArray, List.set_cons_zero, List.set_cons_succ]
    refine Drawn.tk 5 (some 19) rfl rfl (by assumption) ?_
    try simp only [Act.put, List.setIfInBounds_toArray, List.set_cons_zero, List.set_cons_succ]
    refine Drawn.tk 6 (some 20) rfl rfl (by assumption) ?_
    try simp only [Act.put, List.setIfInBounds_toArray, List.set_cons_zero, List.set_cons_succ]
    refine wpAnyH_ready (rs := [2, 7]) (by kernel_rfl) (by simp) ?_
    refine AllReadyH.cons rfl (fun K hK => ?_) (AllReadyH.cons rfl (fun K hK => ?_) AllReadyH.nil)
    · skip
      go_simp
      refine nameW (fun W' => Hid (Below w.heap.size w W') ∧ w1.heap.size < W'.heap.size ∧ W'.cell? ⟨w.heap.size, 0, none⟩ = some (.slice ca f.classes.length ccap) ∧ W'.cell? ⟨w.heap.size, 1, none⟩ = some (.slice ma f.methods.length mcap) ∧ W'.cell? ⟨w1.heap.size, 0, none⟩ = some (.int .u8 k.toNat)) ⟨by first | exact Lib.hid (HW1.out.alloc HW1.out.size _) | exact Lib.hid (HW1.out.alloc HW1.out.size _).drew, by simp, allocK y0 _, allocK y1 _, by go_simp⟩ ?_
      rintro v1 ⟨Hv1, lt_v1, y0_v1, y1_v1, cb_v1⟩
      refine hK.out _ _ (by (try dsimp only); exact ⟨y0_v1, y1_v1⟩) (fun hHeld => ?_)
      clear hK K
      try simp only [Act.put, List.setIfInBounds_toArray, List.set_cons_zero, List.set_cons_succ]
      refine wpAnyH_ready (rs := [3, 7]) (by kernel_rfl) (by simp) ?_
      refine AllReadyH.cons rfl (fun K hK => ?_) (AllReadyH.cons rfl (fun K hK => ?_) AllReadyH.nil)
      · skip
        go_simp
        have h1 := hcv _ _ cb_v1
        go_simp
        clear h1
        refine hK.out _ _ (by (try dsimp only); exact ⟨y0_v1, y1_v1⟩) (fun hHeld => ?_)
        clear hK K
        try simp only [Act.put, List.setIfInBounds_toArray, List.set_cons_zero, List.set_cons_succ]
        refine wpAnyH_ready (rs := [7]) (by kernel_rfl) (by simp) ?_
        refine AllReadyH.cons rfl (fun K hK => ?_) AllReadyH.nil
        go_simp
        refine nameW (fun W' => Hid (Below w.heap.size w W') ∧ v1.heap.size < W'.heap.size ∧ W'.cell? ⟨w.heap.size, 0, none⟩ = some (.slice ca f.classes.length ccap) ∧ W'.cell? ⟨w.heap.size, 1, none⟩ = some (.slice ma f.methods.length mcap) ∧ W'.cell? ⟨w1.heap.size, 0, none⟩ = some (.int .u8 k.toNat) ∧ W'.cell? ⟨v1.heap.size, 0, none⟩ = some (.int .i64 (f.classes.length : Int))) ⟨by first | exact Lib.hid (Hv1.out.alloc Hv1.out.size _) | exact Lib.hid (Hv1.out.alloc Hv1.out.size _).drew, by simp, allocK y0_v1 _, allocK y1_v1 _, allocK cb_v1 _, by go_simp⟩ ?_
        rintro v3 ⟨Hv3, lt_v3, y0_v3, y1_v3, cb_v3, ci_v3⟩
        refine hK.out _ _ (by (try dsimp only); exact ⟨y0_v3, y1_v3⟩) (fun hHeld => ?_)
        clear hK K
        try simp only [Act.put, List.setIfInBounds_toArray, List.set_cons_zero, List.set_cons_succ]
        refine wpAnyH_ready (rs := [8]) (by kernel_rfl) (by simp) ?_
        refine AllReadyH.cons rfl (fun K hK => ?_) AllReadyH.nil
        go_simp
        go_at_call 65
        refine (numberR _ _ _ ci_v3 hcl.out).mono ?_
        rintro e v4 ⟨rfl, hb⟩
        replace hb : Below v3.heap.size v3 v4 := by first | exact hb | exact ((Below.refl _ _).drew).trans hb
        have y0_v4 := kept hb (lt_cell' y0_v3) y0_v3
        have y1_v4 := kept hb (lt_cell' y1_v3) y1_v3
        have cb_v4 := kept hb (lt_cell' cb_v3) cb_v3
        have ci_v4 := kept hb (lt_cell' ci_v3) ci_v3
        have Hv4 := Lib.hid (Hv3.out.trans (hb.mono Hv3.out.size))
        clear hb
        go_simp
        refine hK.out _ _ (by (try dsimp only); exact ⟨y0_v4, y1_v4⟩) (fun hHeld => ?_)
        clear hK K
        try simp only [Act.put, List.setIfInBounds_toArray, List.set_cons_zero, List.set_cons_succ]
        refine wpAnyH_ready (rs := [9]) (by kernel_rfl) (by simp) ?_
        refine AllReadyH.cons rfl (fun K hK => ?_) AllReadyH.nil
        go_simp
        have h1 := S_app [k] (Bytes.wide f.classes.length)
        have h2 := S_sum (a := [k]) (b := Bytes.wide f.classes.length) (by simp [wide_len])
        go_simp
        clear h1 h2
        refine hK.out _ _ (by (try dsimp only); exact ⟨y0_v4, y1_v4⟩) (fun hHeld => ?_)
        clear hK K
        try simp only [Act.put, List.setIfInBounds_toArray, List.set_cons_zero, List.set_cons_succ]
        refine Drawn.tk 10 (some 4) rfl rfl (by assumption) ?_
        try simp only [Act.put, List.setIfInBounds_toArray, List.set_cons_zero, List.set_cons_succ]
        refine wpAnyH_done (by kernel_rfl) ?_ _
        go_wp2_with fail
        go_meet
        case rel => exact ⟨rfl, Hv4, y0_v4, y1_v4⟩
      · skip
        go_simp
        refine nameW (fun W' => Hid (Below w.heap.size w W') ∧ v1.heap.size < W'.heap.size ∧ W'.cell? ⟨w.heap.size, 0, none⟩ = some (.slice ca f.classes.length ccap) ∧ W'.cell? ⟨w.heap.size, 1, none⟩ = some (.slice ma f.methods.length mcap) ∧ W'.cell? ⟨w1.heap.size, 0, none⟩ = some (.int .u8 k.toNat) ∧ W'.cell? ⟨v1.heap.size, 0, none⟩ = some (.int .i64 (f.classes.length : Int))) ⟨by first | exact Lib.hid (Hv1.out.alloc Hv1.out.size _) | exact Lib.hid (Hv1.out.alloc Hv1.out.size _).drew, by simp, allocK y0_v1 _, allocK y1_v1 _, allocK cb_v1 _, by go_simp⟩ ?_
        rintro v6 ⟨Hv6, lt_v6, y0_v6, y1_v6, cb_v6, ci_v6⟩
        refine hK.out _ _ (by (try dsimp only); exact ⟨y0_v6, y1_v6⟩) (fun hHeld => ?_)
        clear hK K
        try simp only [Act.put, List.setIfInBounds_toArray, List.set_cons_zero, List.set_cons_succ]
        refine wpAnyH_ready (rs := [3, 8]) (by kernel_rfl) (by simp) ?_
        refine AllReadyH.cons rfl (fun K hK => ?_) (AllReadyH.cons rfl (fun K hK => ?_) AllReadyH.nil)
        · skip
          go_simp
          have h1 := hcv _ _ cb_v6
          go_simp
          clear h1
          refine hK.out _ _ (by (try dsimp only); exact ⟨y0_v6, y1_v6⟩) (fun hHeld => ?_)
          clear hK K
          try simp only [Act.put, List.setIfInBounds_toArray, List.set_cons_zero, List.set_cons_succ]
          refine wpAnyH_ready (rs := [8]) (by kernel_rfl) (by simp) ?_
          refine AllReadyH.cons rfl (fun K hK => ?_) AllReadyH.nil
          go_simp
          go_at_call 65
          refine (numberR _ _ _ ci_v6 hcl.out).mono ?_
          rintro e v8 ⟨rfl, hb⟩
          replace hb : Below v6.heap.size v6 v8 := by first | exact hb | exact ((Below.refl _ _).drew).trans hb
          have y0_v8 := kept hb (lt_cell' y0_v6) y0_v6
          have y1_v8 := kept hb (lt_cell' y1_v6) y1_v6
          have cb_v8 := kept hb (lt_cell' cb_v6) cb_v6
          have ci_v8 := kept hb (lt_cell' ci_v6) ci_v6
          have Hv8 := Lib.hid (Hv6.out.trans (hb.mono Hv6.out.size))
          clear hb
          go_simp
          refine hK.out _ _ (by (try dsimp only); exact ⟨y0_v8, y1_v8⟩) (fun hHeld => ?_)
          clear hK K
          try simp only [Act.put, List.setIfInBounds_toArray, List.set_cons_zero, List.set_cons_succ]
          refine wpAnyH_ready (rs := [9]) (by kernel_rfl) (by simp) ?_
          refine AllReadyH.cons rfl (fun K hK => ?_) AllReadyH.nil
          go_simp
          have h1 := S_app [k] (Bytes.wide f.classes.length)
          have h2 := S_sum (a := [k]) (b := Bytes.wide f.classes.length) (by simp [wide_len])
          go_simp
          clear h1 h2
          refine hK.out _ _ (by (try dsimp only); exact ⟨y0_v8, y1_v8⟩) (fun hHeld => ?_)
          clear hK K
          try simp only [Act.put, List.setIfInBounds_toArray, List.set_cons_zero, List.set_cons_succ]
          refine Drawn.tk 10 (some 4) rfl rfl (by assumption) ?_
          try simp only [Act.put, List.setIfInBounds_toArray, List.set_cons_zero, List.set_cons_succ]
          refine wpAnyH_done (by kernel_rfl) ?_ _
          go_wp2_with fail
          go_meet
          case rel => exact ⟨rfl, Hv8, y0_v8, y1_v8⟩
        · skip
          go_simp
          go_at_call 65
          refine (numberR _ _ _ ci_v6 hcl.out).mono ?_
          rintro e v10 ⟨rfl, hb⟩
          replace hb : Below v6.heap.size v6 v10 := by first | exact hb | exact ((Below.refl _ _).drew).trans hb
          have y0_v10 := kept hb (lt_cell' y0_v6) y0_v6
          have y1_v10 := kept hb (lt_cell' y1_v6) y1_v6
          have cb_v10 := kept hb (lt_cell' cb_v6) cb_v6
          have ci_v10 := kept hb (lt_cell' ci_v6) ci_v6
          have Hv10 := Lib.hid (Hv6.out.trans (hb.mono Hv6.out.size))
          clear hb
          go_simp
          refine hK.out _ _ (by (try dsimp only); exact ⟨y0_v10, y1_v10⟩) (fun hHeld => ?_)
          clear hK K
          try simp only [Act.put, List.setIfInBounds_toArray, List.set_cons_zero, List.set_cons_succ]
          refine wpAnyH_ready (rs := [3]) (by kernel_rfl) (by simp) ?_
          refine AllReadyH.cons rfl (fun K hK => ?_) AllReadyH.nil
          go_simp
          have h1 := hcv _ _ cb_v10
          go_simp
          clear h1
          refine hK.out _ _ (by (try dsimp only); exact ⟨y0_v10, y1_v10⟩) (fun hHeld => ?_)
          clear hK K
          try simp only [Act.put, List.setIfInBounds_toArray, List.set_cons_zero, List.set_cons_succ]
          refine wpAnyH_ready (rs := [9]) (by kernel_rfl) (by simp) ?_
          refine AllReadyH.cons rfl (fun K hK => ?_) AllReadyH.nil
          go_simp
          have h1 := S_app [k] (Bytes.wide f.classes.length)
          have h2 := S_sum (a := [k]) (b := Bytes.wide f.classes.length) (by simp [wide_len])
          go_simp
          clear h1 h2
          refine hK.out _ _ (by (try dsimp only); exact ⟨y0_v10, y1_v10⟩) (fun hHeld => ?_)
          clear hK K
          try simp only [Act.put, List.setIfInBounds_toArray, List.set_cons_zero, List.set_cons_succ]
          refine Drawn.tk 10 (some 4) rfl rfl (by assumption) ?_
          try simp only [Act.put, List.setIfInBounds_toArray, List.set_cons_zero, List.set_cons_succ]
          refine wpAnyH_done (by kernel_rfl) ?_ _
          go_wp2_with fail
          go_meet
          case rel => exact ⟨rfl, Hv10, y0_v10, y1_v10⟩
    · skip
      go_simp
      refine nameW (fun W' => Hid (Below w.heap.size w W') ∧ w1.heap.size < W'.heap.size ∧ W'.cell? ⟨w.heap.size, 0, none⟩ = some (.slice ca f.classes.length ccap) ∧ W'.cell? ⟨w.heap.size, 1, none⟩ = some (.slice ma f.methods.length mcap) ∧ W'.cell? ⟨w1.heap.size, 0, none⟩ = some (.int .i64 (f.classes.length : Int))) ⟨by first | exact Lib.hid (HW1.out.alloc HW1.out.size _) | exact Lib.hid (HW1.out.alloc HW1.out.size _).drew, by simp, allocK y0 _, allocK y1 _, by go_simp⟩ ?_
      rintro v13 ⟨Hv13, lt_v13, y0_v13, y1_v13, ci_v13⟩
      refine hK.out _ _ (by (try dsimp only); exact ⟨y0_v13, y1_v13⟩) (fun hHeld => ?_)
      clear hK K
      try simp only [Act.put, List.setIfInBounds_toArray, List.set_cons_zero, List.set_cons_succ]
      refine wpAnyH_ready (rs := [2, 8]) (by kernel_rfl) (by simp) ?_
      refine AllReadyH.cons rfl (fun K hK => ?_) (AllReadyH.cons rfl (fun K hK => ?_) AllReadyH.nil)
      · skip
        go_simp
        refine nameW (fun W' => Hid (Below w.heap.size w W') ∧ v13.heap.size < W'.heap.size ∧ W'.cell? ⟨w.heap.size, 0, none⟩ = some (.slice ca f.classes.length ccap) ∧ W'.cell? ⟨w.heap.size, 1, none⟩ = some (.slice ma f.methods.length mcap) ∧ W'.cell? ⟨w1.heap.size, 0, none⟩ = some (.int .i64 (f.classes.length : Int)) ∧ W'.cell? ⟨v13.heap.size, 0, none⟩ = some (.int .u8 k.toNat)) ⟨by first | exact Lib.hid (Hv13.out.alloc Hv13.out.size _) | exact Lib.hid (Hv13.out.alloc Hv13.out.size _).drew, by simp, allocK y0_v13 _, allocK y1_v13 _, allocK ci_v13 _, by go_simp⟩ ?_
        rintro v14 ⟨Hv14, lt_v14, y0_v14, y1_v14, ci_v14, cb_v14⟩
        refine hK.out _ _ (by (try dsimp only); exact ⟨y0_v14, y1_v14⟩) (fun hHeld => ?_)
        clear hK K
        try simp only [Act.put, List.setIfInBounds_toArray, List.set_cons_zero, List.set_cons_succ]
        refine wpAnyH_ready (rs := [3, 8]) (by kernel_rfl) (by simp) ?_
        refine AllReadyH.cons rfl (fun K hK => ?_) (AllReadyH.cons rfl (fun K hK => ?_) AllReadyH.nil)
        · skip
          go_simp
          have h1 := hcv _ _ cb_v14
          go_simp
          clear h1
          refine hK.out _ _ (by (try dsimp only); exact ⟨y0_v14, y1_v14⟩) (fun hHeld => ?_)
          clear hK K
          try simp only [Act.put, List.setIfInBounds_toArray, List.set_cons_zero, List.set_cons_succ]
          refine wpAnyH_ready (rs := [8]) (by kernel_rfl) (by simp) ?_
          refine AllReadyH.cons rfl (fun K hK => ?_) AllReadyH.nil
          go_simp
          go_at_call 65
          refine (numberR _ _ _ ci_v14 hcl.out).mono ?_
          rintro e v16 ⟨rfl, hb⟩
          replace hb : Below v14.heap.size v14 v16 := by first | exact hb | exact ((Below.refl _ _).drew).trans hb
          have y0_v16 := kept hb (lt_cell' y0_v14) y0_v14
          have y1_v16 := kept hb (lt_cell' y1_v14) y1_v14
          have ci_v16 := kept hb (lt_cell' ci_v14) ci_v14
          have cb_v16 := kept hb (lt_cell' cb_v14) cb_v14
          have Hv16 := Lib.hid (Hv14.out.trans (hb.mono Hv14.out.size))
          clear hb
          go_simp
          refine hK.out _ _ (by (try dsimp only); exact ⟨y0_v16, y1_v16⟩) (fun hHeld => ?_)
          clear hK K
          try simp only [Act.put, List.setIfInBounds_toArray, List.set_cons_zero, List.set_cons_succ]
          refine wpAnyH_ready (rs := [9]) (by kernel_rfl) (by simp) ?_
          refine AllReadyH.cons rfl (fun K hK => ?_) AllReadyH.nil
          go_simp
          have h1 := S_app [k] (Bytes.wide f.classes.length)
          have h2 := S_sum (a := [k]) (b := Bytes.wide f.classes.length) (by simp [wide_len])
          go_simp
          clear h1 h2
          refine hK.out _ _ (by (try dsimp only); exact ⟨y0_v16, y1_v16⟩) (fun hHeld => ?_)
          clear hK K
          try simp only [Act.put, List.setIfInBounds_toArray, List.set_cons_zero, List.set_cons_succ]
          refine Drawn.tk 10 (some 4) rfl rfl (by assumption) ?_
          try simp only [Act.put, List.setIfInBounds_toArray, List.set_cons_zero, List.set_cons_succ]
          refine wpAnyH_done (by kernel_rfl) ?_ _
          go_wp2_with fail
          go_meet
          case rel => exact ⟨rfl, Hv16, y0_v16, y1_v16⟩
        · skip
          go_simp
          go_at_call 65
          refine (numberR _ _ _ ci_v14 hcl.out).mono ?_
          rintro e v18 ⟨rfl, hb⟩
          replace hb : Below v14.heap.size v14 v18 := by first | exact hb | exact ((Below.refl _ _).drew).trans hb
          have y0_v18 := kept hb (lt_cell' y0_v14) y0_v14
          have y1_v18 := kept hb (lt_cell' y1_v14) y1_v14
          have ci_v18 := kept hb (lt_cell' ci_v14) ci_v14
          have cb_v18 := kept hb (lt_cell' cb_v14) cb_v14
          have Hv18 := Lib.hid (Hv14.out.trans (hb.mono Hv14.out.size))
          clear hb
          go_simp
          refine hK.out _ _ (by (try dsimp only); exact ⟨y0_v18, y1_v18⟩) (fun hHeld => ?_)
          clear hK K
          try simp only [Act.put, List.setIfInBounds_toArray, List.set_cons_zero, List.set_cons_succ]
          refine wpAnyH_ready (rs := [3]) (by kernel_rfl) (by simp) ?_
          refine AllReadyH.cons rfl (fun K hK => ?_) AllReadyH.nil
          go_simp
          have h1 := hcv _ _ cb_v18
          go_simp
          clear h1
          refine hK.out _ _ (by (try dsimp only); exact ⟨y0_v18, y1_v18⟩) (fun hHeld => ?_)
          clear hK K
          try simp only [Act.put, List.setIfInBounds_toArray, List.set_cons_zero, List.set_cons_succ]
          refine wpAnyH_ready (rs := [9]) (by kernel_rfl) (by simp) ?_
          refine AllReadyH.cons rfl (fun K hK => ?_) AllReadyH.nil
          go_simp
          have h1 := S_app [k] (Bytes.wide f.classes.length)
          have h2 := S_sum (a := [k]) (b := Bytes.wide f.classes.length) (by simp [wide_len])
          go_simp
          clear h1 h2
          refine hK.out _ _ (by (try dsimp only); exact ⟨y0_v18, y1_v18⟩) (fun hHeld => ?_)
          clear hK K
          try simp only [Act.put, List.setIfInBounds_toArray, List.set_cons_zero, List.set_cons_succ]
          refine Drawn.tk 10 (some 4) rfl rfl (by assumption) ?_
          try simp only [Act.put, List.setIfInBounds_toArray, List.set_cons_zero, List.set_cons_succ]
          refine wpAnyH_done (by kernel_rfl) ?_ _
          go_wp2_with fail
          go_meet
          case rel => exact ⟨rfl, Hv18, y0_v18, y1_v18⟩
      · skip
        go_simp
        go_at_call 65
        refine (numberR _ _ _ ci_v13 hcl.out).mono ?_
        rintro e v21 ⟨rfl, hb⟩
        replace hb : Below v13.heap.size v13 v21 := by first | exact hb | exact ((Below.refl _ _).drew).trans hb
        have y0_v21 := kept hb (lt_cell' y0_v13) y0_v13
        have y1_v21 := kept hb (lt_cell' y1_v13) y1_v13
        have ci_v21 := kept hb (lt_cell' ci_v13) ci_v13
        have Hv21 := Lib.hid (Hv13.out.trans (hb.mono Hv13.out.size))
        clear hb
        go_simp
        refine hK.out _ _ (by (try dsimp only); exact ⟨y0_v21, y1_v21⟩) (fun hHeld => ?_)
        clear hK K
        try simp only [Act.put, List.setIfInBounds_toArray, List.set_cons_zero, List.set_cons_succ]
        refine wpAnyH_ready (rs := [2]) (by kernel_rfl) (by simp) ?_
        refine AllReadyH.cons rfl (fun K hK => ?_) AllReadyH.nil
        go_simp
        refine nameW (fun W' => Hid (Below w.heap.size w W') ∧ v21.heap.size < W'.heap.size ∧ W'.cell? ⟨w.heap.size, 0, none⟩ = some (.slice ca f.classes.length ccap) ∧ W'.cell? ⟨w.heap.size, 1, none⟩ = some (.slice ma f.methods.length mcap) ∧ W'.cell? ⟨w1.heap.size, 0, none⟩ = some (.int .i64 (f.classes.length : Int)) ∧ W'.cell? ⟨v21.heap.size, 0, none⟩ = some (.int .u8 k.toNat)) ⟨by first | exact Lib.hid (Hv21.out.alloc Hv21.out.size _) | exact Lib.hid (Hv21.out.alloc Hv21.out.size _).drew, by simp, allocK y0_v21 _, allocK y1_v21 _, allocK ci_v21 _, by go_simp⟩ ?_
        rintro v22 ⟨Hv22, lt_v22, y0_v22, y1_v22, ci_v22, cb_v22⟩
        refine hK.out _ _ (by (try dsimp only); exact ⟨y0_v22, y1_v22⟩) (fun hHeld => ?_)
        clear hK K
        try simp only [Act.put, List.setIfInBounds_toArray, List.set_cons_zero, List.set_cons_succ]
        refine wpAnyH_ready (rs := [3]) (by kernel_rfl) (by simp) ?_
        refine AllReadyH.cons rfl (fun K hK => ?_) AllReadyH.nil
        go_simp
        have h1 := hcv _ _ cb_v22
        go_simp
        clear h1
        refine hK.out _ _ (by (try dsimp only); exact ⟨y0_v22, y1_v22⟩) (fun hHeld => ?_)
        clear hK K
        try simp only [Act.put, List.setIfInBounds_toArray, List.set_cons_zero, List.set_cons_succ]
        refine wpAnyH_ready (rs := [9]) (by kernel_rfl) (by simp) ?_
        refine AllReadyH.cons rfl (fun K hK => ?_) AllReadyH.nil
        go_simp
        have h1 := S_app [k] (Bytes.wide f.classes.length)
        have h2 := S_sum (a := [k]) (b := Bytes.wide f.classes.length) (by simp [wide_len])
        go_simp
        clear h1 h2
        refine hK.out _ _ (by (try dsimp only); exact ⟨y0_v22, y1_v22⟩) (fun hHeld => ?_)
        clear hK K
        try simp only [Act.put, List.setIfInBounds_toArray, List.set_cons_zero, List.set_cons_succ]
        refine Drawn.tk 10 (some 4) rfl rfl (by assumption) ?_
        try simp only [Act.put, List.setIfInBounds_toArray, List.set_cons_zero, List.set_cons_succ]
        refine wpAnyH_done (by kernel_rfl) ?_ _
        go_wp2_with fail
        go_meet
        case rel => exact ⟨rfl, Hv22, y0_v22, y1_v22⟩
  case rest =>
    obtain ⟨rfl, hb0, y0, y1⟩ := hcut
    clear hcv hkw
    go_wp2_with fail
    go_loopw [4, 5] (fun s i wr => ∃ j : Nat, j ≤ f.classes.length ∧ i = .int .i64 j ∧ s = .string (S (k :: (Bytes.wide f.classes.length ++ (f.classes.take j).flatMap clB))) ∧ Hid (Below w.heap.size w wr) ∧ wr.cell? ⟨w.heap.size, 0, none⟩ = some (.slice ca f.classes.length ccap) ∧ wr.cell? ⟨w.heap.size, 1, none⟩ = some (.slice ma f.methods.length mcap)) (fun _ i _ => f.classes.length - (intOf i).toNat)
    case atStart => exact ⟨0, by omega, rfl, by simp, hb0, y0, y1⟩
    case round =>
    obtain ⟨j, hj, rfl, rfl, hb, z0, z1⟩ := hrel
    clear y0 y1
    by_cases hlt : j < f.classes.length
    · obtain ⟨a, cap', ha, _, _, hel⟩ := S1.out
      simp only [Value.slice.injEq] at ha
      obtain ⟨rfl, _, rfl⟩ := ha
      obtain ⟨b1, o1, rfl, hb1, he⟩ := hel j hlt
      have hst := Lib.hid (List.take_succ_eq_append_getElem hlt)
      obtain ⟨x, hx⟩ := at_of hlt
      rw [hx.out] at he
      rw [hx.out] at hst
      have hle : ((f.classes.take (j + 1)).flatMap clB).length ≤ (f.classes.flatMap clB).length := flat_le clB f.classes (j + 1)
      rw [hst.out, List.flatMap_append, List.length_append, List.flatMap_cons, List.flatMap_nil, List.append_nil] at hle
      have hcc : (f.classes.flatMap clB).length ≤ 2000000 := by rw [lst, List.length_append] at hlc; omega
      have hle2 : (lst tyB x.fields).length ≤ 2000000 := by simp only [clB, List.length_append] at hle; omega
      have hle3 : x.fields.length ≤ 2000000 := by rw [lst, List.length_append, tys_len] at hle2; omega
      obtain ⟨bk, hbk⟩ : ∃ bk, Hid (k :: (Bytes.wide f.classes.length ++ (f.classes.take j).flatMap clB) = bk) := ⟨_, rfl⟩
      have hbl : bk.length ≤ 2000009 := by rw [← hbk.out, List.length_cons, List.length_append, wide_len]; omega
      rw [hbk.out]
      obtain ⟨g0, ok0, va, g1, sa⟩ := he
      have c0 := kept hb.out hb1 g0
      have c1 := kept hb.out hb1 g1
      have sv := Lib.hid sa
      obtain ⟨aa, acap, hva, _, _, _⟩ := sa
      subst hva
      have y0 := z0
      have y1 := z1
      have hI : (j : Int) < f.classes.length := by omega
      have hlb := lt_cell' c0
      clear hel g0 g1 hle z0 z1 hcc
      go_wp2_with fail
      refine wp_region_held_drew (S := fun w' => w'.cell? ⟨w.heap.size, 0, none⟩ = some (.slice (some ⟨b1, o1, none⟩) f.classes.length ccap) ∧ w'.cell? ⟨b1, o1 + j * 2, none⟩ = some (.int .i64 x.sup) ∧ w'.cell? ⟨b1, o1 + j * 2 + 1, none⟩ = some (.slice aa x.fields.length acap)) (by kernel_rfl) (by (try dsimp only); exact ⟨y0, c0, c1⟩) (fun hHeld => ?_)
      refine Drawn.tk 0 (some 31) rfl rfl (by assumption) ?_
      try simp only [Act.put, List.setIfInBounds_toArray, List.set_cons_zero, List.set_cons_succ]
      refine Drawn.tk 1 (some 32) rfl rfl (by assumption) ?_
      try simp only [Act.put, List.setIfInBounds_toArray, List.set_cons_zero, List.set_cons_succ]
      refine Drawn.tk 2 (some 33) rfl rfl (by assumption) ?_
      try simp only [Act.put, List.setIfInBounds_toArray, List.set_cons_zero, List.set_cons_succ]
      refine Drawn.tk 3 (some 34) rfl rfl (by assumption) ?_
      try simp only [Act.put, List.setIfInBounds_toArray, List.set_cons_zero, List.set_cons_succ]
      refine Drawn.tk 4 (some 35) rfl rfl (by assumption) ?_
      try simp only [Act.put, List.setIfInBounds_toArray, List.set_cons_zero, List.set_cons_succ]
      refine Drawn.tk 5 (some 36) rfl rfl (by assumption) ?_
      try simp only [Act.put, List.setIfInBounds_toArray, List.set_cons_zero, List.set_cons_succ]
      refine Drawn.tk 6 (some 37) rfl rfl (by assumption) ?_
      try simp only [Act.put, List.setIfInBounds_toArray, List.set_cons_zero, List.set_cons_succ]
      refine Drawn.tk 10 (some 41) rfl rfl (by assumption) ?_
      try simp only [Act.put, List.setIfInBounds_toArray, List.set_cons_zero, List.set_cons_succ]
      refine Drawn.tk 11 (some 42) rfl rfl (by assumption) ?_
      try simp only [Act.put, List.setIfInBounds_toArray, List.set_cons_zero, List.set_cons_succ]
      refine Drawn.tk 12 (some 43) rfl rfl (by assumption) ?_
      try simp only [Act.put, List.setIfInBounds_toArray, List.set_cons_zero, List.set_cons_succ]
      refine Drawn.tk 13 (some 44) rfl rfl (by assumption) ?_
      try simp only [Act.put, List.setIfInBounds_toArray, List.set_cons_zero, List.set_cons_succ]
      refine Drawn.tk 14 (some 45) rfl rfl (by assumption) ?_
      try simp only [Act.put, List.setIfInBounds_toArray, List.set_cons_zero, List.set_cons_succ]
      refine Drawn.tk 15 (some 46) rfl rfl (by assumption) ?_
      try simp only [Act.put, List.setIfInBounds_toArray, List.set_cons_zero, List.set_cons_succ]
      refine wpAnyH_ready (rs := [7]) (by kernel_rfl) (by simp) ?_
      refine AllReadyH.cons rfl (fun K hK => ?_) AllReadyH.nil
      go_simp
      refine nameW (fun W' => Hid (Below w.heap.size w W') ∧ wr.heap.size < W'.heap.size ∧ W'.cell? ⟨w.heap.size, 0, none⟩ = some (.slice (some ⟨b1, o1, none⟩) f.classes.length ccap) ∧ W'.cell? ⟨w.heap.size, 1, none⟩ = some (.slice ma f.methods.length mcap) ∧ W'.cell? ⟨b1, o1 + j * 2, none⟩ = some (.int .i64 x.sup) ∧ W'.cell? ⟨b1, o1 + j * 2 + 1, none⟩ = some (.slice aa x.fields.length acap) ∧ W'.cell? ⟨wr.heap.size, 0, none⟩ = some (.int .i64 x.sup)) ⟨by first | exact Lib.hid (hb.out.alloc hb.out.size _) | exact Lib.hid (hb.out.alloc hb.out.size _).drew, by simp, allocK y0 _, allocK y1 _, allocK c0 _, allocK c1 _, by go_simp⟩ ?_
      rintro v1 ⟨Hv1, lt_v1, y0_v1, y1_v1, c0_v1, c1_v1, ci_v1⟩
      refine hK.out _ _ (by (try dsimp only); exact ⟨y0_v1, c0_v1, c1_v1⟩) (fun hHeld => ?_)
      clear hK K
      try simp only [Act.put, List.setIfInBounds_toArray, List.set_cons_zero, List.set_cons_succ]
      refine wpAnyH_ready (rs := [8]) (by kernel_rfl) (by simp) ?_
      refine AllReadyH.cons rfl (fun K hK => ?_) AllReadyH.nil
      go_simp
      go_at_call 65
      refine (numberR _ _ _ ci_v1 ok0).mono ?_
      rintro e v2 ⟨rfl, hb⟩
      replace hb : Below v1.heap.size v1 v2 := by first | exact hb | exact ((Below.refl _ _).drew).trans hb
      have y0_v2 := kept hb (lt_cell' y0_v1) y0_v1
      have y1_v2 := kept hb (lt_cell' y1_v1) y1_v1
      have c0_v2 := kept hb (lt_cell' c0_v1) c0_v1
      have c1_v2 := kept hb (lt_cell' c1_v1) c1_v1
      have ci_v2 := kept hb (lt_cell' ci_v1) ci_v1
      have Hv2 := Lib.hid (Hv1.out.trans (hb.mono Hv1.out.size))
      clear hb
      go_simp
      refine hK.out _ _ (by (try dsimp only); exact ⟨y0_v2, c0_v2, c1_v2⟩) (fun hHeld => ?_)
      clear hK K
      try simp only [Act.put, List.setIfInBounds_toArray, List.set_cons_zero, List.set_cons_succ]
      have h1 := S_app (bk) (Bytes.wide x.sup)
      have h2 := S_sum (a := bk) (b := Bytes.wide x.sup) (by rw [wide_len]; omega)
      refine Drawn.tk 9 (some 40) rfl rfl (by assumption) ?_
      try simp only [Act.put, List.setIfInBounds_toArray, List.set_cons_zero, List.set_cons_succ]
      clear h1 h2
      refine wpAnyH_ready (rs := [16]) (by kernel_rfl) (by simp) ?_
      refine AllReadyH.cons rfl (fun K hK => ?_) AllReadyH.nil
      go_simp
      go_at_call 66
      refine (typesR _ x.fields _ (sv.out.mono mTy Hv2.out Hv2.out.size) (by omega)).mono ?_
      rintro e v3 ⟨rfl, hb⟩
      replace hb : Below v2.heap.size v2 v3 := by first | exact hb | exact ((Below.refl _ _).drew).trans hb
      have y0_v3 := kept hb (lt_cell' y0_v2) y0_v2
      have y1_v3 := kept hb (lt_cell' y1_v2) y1_v2
      have c0_v3 := kept hb (lt_cell' c0_v2) c0_v2
      have c1_v3 := kept hb (lt_cell' c1_v2) c1_v2
      have ci_v3 := kept hb (lt_cell' ci_v2) ci_v2
      have Hv3 := Lib.hid (Hv2.out.trans (hb.mono Hv2.out.size))
      clear hb
      go_simp
      refine hK.out _ _ (by (try dsimp only); exact ⟨y0_v3, c0_v3, c1_v3⟩) (fun hHeld => ?_)
      clear hK K
      try simp only [Act.put, List.setIfInBounds_toArray, List.set_cons_zero, List.set_cons_succ]
      have h1 := S_app (bk ++ Bytes.wide x.sup) (lst tyB x.fields)
      have h2 := S_sum (a := bk ++ Bytes.wide x.sup) (b := lst tyB x.fields) (by rw [List.length_append, wide_len]; omega)
      refine Drawn.tk 17 (some 48) rfl rfl (by assumption) ?_
      try simp only [Act.put, List.setIfInBounds_toArray, List.set_cons_zero, List.set_cons_succ]
      clear h1 h2
      refine Drawn.tk 18 (some 4) rfl rfl (by assumption) ?_
      try simp only [Act.put, List.setIfInBounds_toArray, List.set_cons_zero, List.set_cons_succ]
      refine wpAnyH_done (by kernel_rfl) ?_ _
      have Hv3z := Hv3
      clear c0_v3 c1_v3 ci_v3
      go_wp2_with fail
      go_roundw
      case rel => exact ⟨j + 1, by omega, by go_num, by rw [hst.out, List.flatMap_append, ← List.append_assoc (Bytes.wide _), ← List.cons_append, hbk.out]; simp [clB], Hv3, y0_v3, y1_v3⟩
      case measure => simp [intOf]; omega
    · have hst := Lib.hid (List.take_of_length_le (l := f.classes) (i := j) (by omega))
      rw [hst.out]
      obtain ⟨bk, hbk⟩ : ∃ bk, Hid (k :: (Bytes.wide f.classes.length ++ f.classes.flatMap clB) = bk) := ⟨_, rfl⟩
      rw [hbk.out]
      have hbl : bk.length ≤ 2000009 := by rw [← hbk.out, List.length_cons, List.length_append, wide_len]; rw [lst, List.length_append, wide_len] at hlc; omega
      have hge : ¬ (j : Int) < f.classes.length := by omega
      have hlw := lt_cell' z0
      go_wp2_with fail
      refine (numberR (f.methods.length : Int) _ _ (by go_simp) (by unfold Ok; omega)).mono ?_
      rintro e w2 ⟨rfl, hb2⟩
      have hbw : Below wr.heap.size wr w2 := Below.trans (by repeat' (first | with_reducible exact Below.refl _ _ | with_reducible assumption | exact Nat.le_refl _ | with_reducible refine Go.Proofs.Ytncmhenfgbcihaa.Rd.below_drewN ?_ _ | with_reducible refine Below.alloc ?_ ?_ _ | with_reducible refine Below.setCell ?_ ?_ _ | with_reducible refine Below.drew ?_ | omega | (simp; omega) | (simp; done))) (hb2.mono (by simp <;> omega))
      have HB2 := Lib.hid (hb.out.trans (hbw.mono hb.out.size))
      have y1 := kept hbw hlw z1
      have h1 := S_app bk (Bytes.wide f.methods.length)
      have h2 := S_sum (a := bk) (b := Bytes.wide f.methods.length) (by rw [wide_len]; omega)
      clear hb2 hbw hge z0 z1
      go_wp2_with fail
      clear h1 h2
      obtain ⟨bk2, hbk2⟩ : ∃ bk2, Hid (bk ++ Bytes.wide f.methods.length = bk2) := ⟨_, rfl⟩
      rw [hbk2.out]
      have hbl2 : bk2.length ≤ 2000017 := by rw [← hbk2.out, List.length_append, wide_len]; omega
      clear hbl
      go_loopw [4, 6] (fun s i wr => ∃ j : Nat, j ≤ f.methods.length ∧ i = .int .i64 j ∧ s = .string (S (bk2 ++ (f.methods.take j).flatMap meB)) ∧ Hid (Below w.heap.size w wr) ∧ wr.cell? ⟨w.heap.size, 1, none⟩ = some (.slice ma f.methods.length mcap)) (fun _ i _ => f.methods.length - (intOf i).toNat)
      case atStart => exact ⟨0, by omega, rfl, by simp, HB2, y1⟩
      case round =>
      obtain ⟨j2, hj2, rfl, rfl, hbn0, z1⟩ := hrel
      clear y1
      by_cases hlt2 : j2 < f.methods.length
      · obtain ⟨a, cap', ha, _, _, hel⟩ := S2.out
        simp only [Value.slice.injEq] at ha
        obtain ⟨rfl, _, rfl⟩ := ha
        obtain ⟨b1, o1, rfl, hb1, he⟩ := hel j2 hlt2
        have hst2 := Lib.hid (List.take_succ_eq_append_getElem hlt2)
        obtain ⟨x, hx⟩ := at_of hlt2
        rw [hx.out] at he
        rw [hx.out] at hst2
        have hle : ((f.methods.take (j2 + 1)).flatMap meB).length ≤ (f.methods.flatMap meB).length := flat_le meB f.methods (j2 + 1)
        rw [hst2.out, List.flatMap_append, List.length_append, List.flatMap_cons, List.flatMap_nil, List.append_nil] at hle
        have hmm : (f.methods.flatMap meB).length ≤ 2000000 := by rw [lst, lst, List.length_append, List.length_append] at hlc; omega
        obtain ⟨hp2, hc2', hh2⟩ : (lst tyB x.params).length ≤ 2000000 ∧ (lst insB x.code).length ≤ 2000000 ∧ (lst hdB x.handlers).length ≤ 2000000 := by simp only [meB, List.length_append] at hle; omega
        have hp3 : x.params.length ≤ 2000000 := by rw [lst, List.length_append, tys_len] at hp2; omega
        have hc3 : (x.code.flatMap insB).length ≤ 2000000 := by rw [lst, List.length_append] at hc2'; omega
        have hh3 : (x.handlers.flatMap hdB).length ≤ 2000000 := by rw [lst, List.length_append] at hh2; omega
        obtain ⟨bk', hbk'⟩ : ∃ bk', Hid (bk2 ++ (f.methods.take j2).flatMap meB = bk') := ⟨_, rfl⟩
        have hbl' : bk'.length ≤ 4000017 := by rw [← hbk'.out, List.length_append]; omega
        rw [hbk'.out]
        obtain ⟨vp, vc, vh, g0, g1, g2, g3, g4, g5, g6, g7, oks, s1, s2, s3⟩ := he
        have k0 := kept hbn0.out hb1 g0
        have k1 := kept hbn0.out hb1 g1
        have k2 := kept hbn0.out hb1 g2
        have k3 := kept hbn0.out hb1 g3
        have k4 := kept hbn0.out hb1 g4
        have k5 := kept hbn0.out hb1 g5
        have k6 := kept hbn0.out hb1 g6
        have k7 := kept hbn0.out hb1 g7
        have sp := Lib.hid s1; have sc := Lib.hid s2; have sh := Lib.hid s3
        obtain ⟨pa, pcap, hva, _, _, _⟩ := s1
        subst hva
        obtain ⟨da, dcap, hva, hcc1, hcc2, _⟩ := s2
        subst hva
        obtain ⟨ha, hcap, hva, hhc1, hhc2, _⟩ := s3
        subst hva
        have okc := Lib.hid (show Ok (x.code.length : Int) by unfold Ok; omega)
        have okh := Lib.hid (show Ok (x.handlers.length : Int) by unfold Ok; omega)
        have hI : (j2 : Int) < f.methods.length := by omega
        clear hel g0 g1 g2 g3 g4 g5 g6 g7 hle hmm
        go_wp2_with fail
        refine nameW (fun W' => Hid (Below w.heap.size w W') ∧ wr.heap.size < W'.heap.size ∧ w.heap.size ≤ wr.heap.size ∧ W'.cell? ⟨w.heap.size, 1, none⟩ = some (.slice (some ⟨b1, o1, none⟩) f.methods.length mcap) ∧ W'.cell? ⟨wr.heap.size, 0, none⟩ = some (.slice pa x.params.length pcap) ∧ W'.cell? ⟨wr.heap.size, 1, none⟩ = some (.int .i64 x.ret.kind) ∧ W'.cell? ⟨wr.heap.size, 2, none⟩ = some (.int .i64 x.ret.cls) ∧ W'.cell? ⟨wr.heap.size, 3, none⟩ = some (.int .i64 x.stack) ∧ W'.cell? ⟨wr.heap.size, 4, none⟩ = some (.int .i64 x.locals) ∧ W'.cell? ⟨wr.heap.size, 5, none⟩ = some (.int .i64 x.regs) ∧ W'.cell? ⟨wr.heap.size, 6, none⟩ = some (.slice da x.code.length dcap) ∧ W'.cell? ⟨wr.heap.size, 7, none⟩ = some (.slice ha x.handlers.length hcap)) ⟨Lib.hid (hbn0.out.alloc hbn0.out.size _), by simp, hbn0.out.size, allocK z1 _, by go_simp, by go_simp, by go_simp, by go_simp, by go_simp, by go_simp, by go_simp, by go_simp⟩ ?_
        rintro wn ⟨hbn, hnlt, hnge, y1, z0, z1', z2, z3, z4, z5, z6, z7⟩
        clear z1 k0 k1 k2 k3 k4 k5 k6 k7
        have z1 := z1'
        clear z1'
        generalize wr.heap.size = nm at *
        go_cut [4] from 68 to 90 (fun s4 wx => s4 = .string (S (bk' ++ lst tyB x.params ++ (Bytes.wide x.ret.kind ++ (Bytes.wide x.ret.cls ++ (Bytes.wide x.stack ++ (Bytes.wide x.locals ++ (Bytes.wide x.regs ++ Bytes.wide (x.code.length : Int)))))))) ∧ Hid (Below w.heap.size w wx) ∧ wx.cell? ⟨w.heap.size, 1, none⟩ = some (.slice (some ⟨b1, o1, none⟩) f.methods.length mcap) ∧ wx.cell? ⟨nm, 6, none⟩ = some (.slice da x.code.length dcap) ∧ wx.cell? ⟨nm, 7, none⟩ = some (.slice ha x.handlers.length hcap))
        case first =>
          obtain ⟨bk, rfl⟩ : ∃ bk, bk = bk' := ⟨_, rfl⟩
          refine wp_region_held_drew (S := fun w' => w'.cell? ⟨nm, 0, none⟩ = some (.slice pa x.params.length pcap) ∧ w'.cell? ⟨nm, 1, none⟩ = some (.int .i64 x.ret.kind) ∧ w'.cell? ⟨nm, 2, none⟩ = some (.int .i64 x.ret.cls) ∧ w'.cell? ⟨nm, 3, none⟩ = some (.int .i64 x.stack) ∧ w'.cell? ⟨nm, 4, none⟩ = some (.int .i64 x.locals) ∧ w'.cell? ⟨nm, 5, none⟩ = some (.int .i64 x.regs) ∧ w'.cell? ⟨nm, 6, none⟩ = some (.slice da x.code.length dcap)) (by kernel_rfl) (by (try dsimp only); exact ⟨z0, z1, z2, z3, z4, z5, z6⟩) (fun hHeld => ?_)
          refine Drawn.tk 0 (some 68) rfl rfl (by assumption) ?_
          try simp only [Act.put, List.setIfInBounds_toArray, List.set_cons_zero, List.set_cons_succ]
          refine Drawn.tk 1 (some 69) rfl rfl (by assumption) ?_
          try simp only [Act.put, List.setIfInBounds_toArray, List.set_cons_zero, List.set_cons_succ]
          refine Drawn.tk 2 (some 70) rfl rfl (by assumption) ?_
          try simp only [Act.put, List.setIfInBounds_toArray, List.set_cons_zero, List.set_cons_succ]
          refine Drawn.tk 5 (some 73) rfl rfl (by assumption) ?_
          try simp only [Act.put, List.setIfInBounds_toArray, List.set_cons_zero, List.set_cons_succ]
          refine Drawn.tk 6 (some 74) rfl rfl (by assumption) ?_
          try simp only [Act.put, List.setIfInBounds_toArray, List.set_cons_zero, List.set_cons_succ]
          refine Drawn.tk 7 (some 75) rfl rfl (by assumption) ?_
          try simp only [Act.put, List.setIfInBounds_toArray, List.set_cons_zero, List.set_cons_succ]
          refine Drawn.tk 8 (some 76) rfl rfl (by assumption) ?_
          try simp only [Act.put, List.setIfInBounds_toArray, List.set_cons_zero, List.set_cons_succ]
          refine Drawn.tk 9 (some 77) rfl rfl (by assumption) ?_
          try simp only [Act.put, List.setIfInBounds_toArray, List.set_cons_zero, List.set_cons_succ]
          refine Drawn.tk 10 (some 78) rfl rfl (by assumption) ?_
          try simp only [Act.put, List.setIfInBounds_toArray, List.set_cons_zero, List.set_cons_succ]
          refine Drawn.tk 11 (some 79) rfl rfl (by assumption) ?_
          try simp only [Act.put, List.setIfInBounds_toArray, List.set_cons_zero, List.set_cons_succ]
          refine Drawn.tk 12 (some 80) rfl rfl (by assumption) ?_
          try simp only [Act.put, List.setIfInBounds_toArray, List.set_cons_zero, List.set_cons_succ]
          refine Drawn.tk 13 (some 81) rfl rfl (by assumption) ?_
          try simp only [Act.put, List.setIfInBounds_toArray, List.set_cons_zero, List.set_cons_succ]
          refine Drawn.tk 14 (some 82) rfl rfl (by assumption) ?_
          try simp only [Act.put, List.setIfInBounds_toArray, List.set_cons_zero, List.set_cons_succ]
          refine Drawn.tk 15 (some 83) rfl rfl (by assumption) ?_
          try simp only [Act.put, List.setIfInBounds_toArray, List.set_cons_zero, List.set_cons_succ]
          refine Drawn.tk 16 (some 84) rfl rfl (by assumption) ?_
          try simp only [Act.put, List.setIfInBounds_toArray, List.set_cons_zero, List.set_cons_succ]
          refine Drawn.tk 17 (some 85) rfl rfl (by assumption) ?_
          try simp only [Act.put, List.setIfInBounds_toArray, List.set_cons_zero, List.set_cons_succ]
          refine Drawn.tk 18 (some 86) rfl rfl (by assumption) ?_
          try simp only [Act.put, List.setIfInBounds_toArray, List.set_cons_zero, List.set_cons_succ]
          refine Drawn.tk 19 (some 87) rfl rfl (by assumption) ?_
          try simp only [Act.put, List.setIfInBounds_toArray, List.set_cons_zero, List.set_cons_succ]
          refine wpAnyH_ready (rs := [3, 20]) (by kernel_rfl) (by simp) ?_
          refine AllReadyH.cons rfl (fun K hK => ?_) (AllReadyH.cons rfl (fun K hK => ?_) AllReadyH.nil)
          · skip
            go_simp
            go_at_call 66
            refine (typesR _ x.params _ (by first | exact sp.out.mono mTy hbn.out hbn.out.size | exact sp.out.mono mTy hbn.out.drew hbn.out.size) (by omega)).mono ?_
            rintro e v1 ⟨rfl, hb⟩
            replace hb : Below wn.heap.size wn v1 := by first | exact hb | exact ((Below.refl _ _).drew).trans hb
            have z0_v1 := kept hb (lt_cell' z0) z0
            have z1_v1 := kept hb (lt_cell' z1) z1
            have z2_v1 := kept hb (lt_cell' z2) z2
            have z3_v1 := kept hb (lt_cell' z3) z3
            have z4_v1 := kept hb (lt_cell' z4) z4
            have z5_v1 := kept hb (lt_cell' z5) z5
            have z6_v1 := kept hb (lt_cell' z6) z6
            have z7_v1 := kept hb (lt_cell' z7) z7
            have y1_v1 := kept hb (lt_cell' y1) y1
            have Hv1 := Lib.hid (hbn.out.trans (hb.mono hbn.out.size))
            clear hb
            go_simp
            refine hK.out _ _ (by (try dsimp only); exact ⟨z0_v1, z1_v1, z2_v1, z3_v1, z4_v1, z5_v1, z6_v1⟩) (fun hHeld => ?_)
            clear hK K
            try simp only [Act.put, List.setIfInBounds_toArray, List.set_cons_zero, List.set_cons_succ]
            have h1 := S_app (bk) (lst tyB x.params)
            have h2 := S_sum (a := bk) (b := lst tyB x.params) (by omega)
            refine Drawn.tk 4 (some 72) rfl rfl (by assumption) ?_
            try simp only [Act.put, List.setIfInBounds_toArray, List.set_cons_zero, List.set_cons_succ]
            clear h1 h2
            refine wpAnyH_ready (rs := [20]) (by kernel_rfl) (by simp) ?_
            refine AllReadyH.cons rfl (fun K hK => ?_) AllReadyH.nil
            go_simp
            refine nameW (fun W' => Hid (Below w.heap.size w W') ∧ v1.heap.size < W'.heap.size ∧ W'.cell? ⟨nm, 0, none⟩ = some (.slice pa x.params.length pcap) ∧ W'.cell? ⟨nm, 1, none⟩ = some (.int .i64 x.ret.kind) ∧ W'.cell? ⟨nm, 2, none⟩ = some (.int .i64 x.ret.cls) ∧ W'.cell? ⟨nm, 3, none⟩ = some (.int .i64 x.stack) ∧ W'.cell? ⟨nm, 4, none⟩ = some (.int .i64 x.locals) ∧ W'.cell? ⟨nm, 5, none⟩ = some (.int .i64 x.regs) ∧ W'.cell? ⟨nm, 6, none⟩ = some (.slice da x.code.length dcap) ∧ W'.cell? ⟨nm, 7, none⟩ = some (.slice ha x.handlers.length hcap) ∧ W'.cell? ⟨w.heap.size, 1, none⟩ = some (.slice (some ⟨b1, o1, none⟩) f.methods.length mcap) ∧ W'.cell? ⟨v1.heap.size, 0, none⟩ = some (.int .i64 x.ret.kind) ∧ W'.cell? ⟨v1.heap.size, 1, none⟩ = some (.int .i64 x.ret.cls) ∧ W'.cell? ⟨v1.heap.size, 2, none⟩ = some (.int .i64 x.stack) ∧ W'.cell? ⟨v1.heap.size, 3, none⟩ = some (.int .i64 x.locals) ∧ W'.cell? ⟨v1.heap.size, 4, none⟩ = some (.int .i64 x.regs) ∧ W'.cell? ⟨v1.heap.size, 5, none⟩ = some (.int .i64 (x.code.length : Int))) ⟨by first | exact Lib.hid (Hv1.out.alloc Hv1.out.size _) | exact Lib.hid (Hv1.out.alloc Hv1.out.size _).drew, by simp, allocK z0_v1 _, allocK z1_v1 _, allocK z2_v1 _, allocK z3_v1 _, allocK z4_v1 _, allocK z5_v1 _, allocK z6_v1 _, allocK z7_v1 _, allocK y1_v1 _, by go_simp, by go_simp, by go_simp, by go_simp, by go_simp, by go_simp⟩ ?_
            rintro v2 ⟨Hv2, lt_v2, z0_v2, z1_v2, z2_v2, z3_v2, z4_v2, z5_v2, z6_v2, z7_v2, y1_v2, i0_v2, i1_v2, i2_v2, i3_v2, i4_v2, i5_v2⟩
            refine hK.out _ _ (by (try dsimp only); exact ⟨z0_v2, z1_v2, z2_v2, z3_v2, z4_v2, z5_v2, z6_v2⟩) (fun hHeld => ?_)
            clear hK K
            try simp only [Act.put, List.setIfInBounds_toArray, List.set_cons_zero, List.set_cons_succ]
            refine wpAnyH_ready (rs := [21]) (by kernel_rfl) (by simp) ?_
            refine AllReadyH.cons rfl (fun K hK => ?_) AllReadyH.nil
            go_simp
            go_at_call 65
            refine (numbers6R _ _ _ _ _ _ _ _ ⟨i0_v2, i1_v2, i2_v2, i3_v2, i4_v2, i5_v2⟩ ⟨oks, okc.out⟩).mono ?_
            rintro e v3 ⟨rfl, hb⟩
            replace hb : Below v2.heap.size v2 v3 := by first | exact hb | exact ((Below.refl _ _).drew).trans hb
            have z0_v3 := kept hb (lt_cell' z0_v2) z0_v2
            have z1_v3 := kept hb (lt_cell' z1_v2) z1_v2
            have z2_v3 := kept hb (lt_cell' z2_v2) z2_v2
            have z3_v3 := kept hb (lt_cell' z3_v2) z3_v2
            have z4_v3 := kept hb (lt_cell' z4_v2) z4_v2
            have z5_v3 := kept hb (lt_cell' z5_v2) z5_v2
            have z6_v3 := kept hb (lt_cell' z6_v2) z6_v2
            have z7_v3 := kept hb (lt_cell' z7_v2) z7_v2
            have y1_v3 := kept hb (lt_cell' y1_v2) y1_v2
            have i0_v3 := kept hb (lt_cell' i0_v2) i0_v2
            have i1_v3 := kept hb (lt_cell' i1_v2) i1_v2
            have i2_v3 := kept hb (lt_cell' i2_v2) i2_v2
            have i3_v3 := kept hb (lt_cell' i3_v2) i3_v2
            have i4_v3 := kept hb (lt_cell' i4_v2) i4_v2
            have i5_v3 := kept hb (lt_cell' i5_v2) i5_v2
            have Hv3 := Lib.hid (Hv2.out.trans (hb.mono Hv2.out.size))
            clear hb
            go_simp
            refine hK.out _ _ (by (try dsimp only); exact ⟨z0_v3, z1_v3, z2_v3, z3_v3, z4_v3, z5_v3, z6_v3⟩) (fun hHeld => ?_)
            clear hK K
            try simp only [Act.put, List.setIfInBounds_toArray, List.set_cons_zero, List.set_cons_succ]
            have h1 := S_app (bk ++ lst tyB x.params) (Bytes.wide x.ret.kind ++ (Bytes.wide x.ret.cls ++ (Bytes.wide x.stack ++ (Bytes.wide x.locals ++ (Bytes.wide x.regs ++ Bytes.wide (x.code.length : Int))))))
            have h2 := S_sum (a := bk ++ lst tyB x.params) (b := Bytes.wide x.ret.kind ++ (Bytes.wide x.ret.cls ++ (Bytes.wide x.stack ++ (Bytes.wide x.locals ++ (Bytes.wide x.regs ++ Bytes.wide (x.code.length : Int)))))) (by simp only [List.length_append, wide_len]; omega)
            refine Drawn.tk 22 (some 90) rfl rfl (by assumption) ?_
            try simp only [Act.put, List.setIfInBounds_toArray, List.set_cons_zero, List.set_cons_succ]
            clear h1 h2
            refine Drawn.tk 23 (some 4) rfl rfl (by assumption) ?_
            try simp only [Act.put, List.setIfInBounds_toArray, List.set_cons_zero, List.set_cons_succ]
            refine wpAnyH_done (by kernel_rfl) ?_ _
            clear z0_v3 z1_v3 z2_v3 z3_v3 z4_v3 i0_v3 i1_v3 i2_v3 i3_v3 i4_v3 i5_v3
            go_wp2_with fail
            go_meet
            case rel => exact ⟨by simp only [List.append_assoc], Hv3, y1_v3, z6_v3, z7_v3⟩
          · skip
            go_simp
            refine nameW (fun W' => Hid (Below w.heap.size w W') ∧ wn.heap.size < W'.heap.size ∧ W'.cell? ⟨nm, 0, none⟩ = some (.slice pa x.params.length pcap) ∧ W'.cell? ⟨nm, 1, none⟩ = some (.int .i64 x.ret.kind) ∧ W'.cell? ⟨nm, 2, none⟩ = some (.int .i64 x.ret.cls) ∧ W'.cell? ⟨nm, 3, none⟩ = some (.int .i64 x.stack) ∧ W'.cell? ⟨nm, 4, none⟩ = some (.int .i64 x.locals) ∧ W'.cell? ⟨nm, 5, none⟩ = some (.int .i64 x.regs) ∧ W'.cell? ⟨nm, 6, none⟩ = some (.slice da x.code.length dcap) ∧ W'.cell? ⟨nm, 7, none⟩ = some (.slice ha x.handlers.length hcap) ∧ W'.cell? ⟨w.heap.size, 1, none⟩ = some (.slice (some ⟨b1, o1, none⟩) f.methods.length mcap) ∧ W'.cell? ⟨wn.heap.size, 0, none⟩ = some (.int .i64 x.ret.kind) ∧ W'.cell? ⟨wn.heap.size, 1, none⟩ = some (.int .i64 x.ret.cls) ∧ W'.cell? ⟨wn.heap.size, 2, none⟩ = some (.int .i64 x.stack) ∧ W'.cell? ⟨wn.heap.size, 3, none⟩ = some (.int .i64 x.locals) ∧ W'.cell? ⟨wn.heap.size, 4, none⟩ = some (.int .i64 x.regs) ∧ W'.cell? ⟨wn.heap.size, 5, none⟩ = some (.int .i64 (x.code.length : Int))) ⟨by first | exact Lib.hid (hbn.out.alloc hbn.out.size _) | exact Lib.hid (hbn.out.alloc hbn.out.size _).drew, by simp, allocK z0 _, allocK z1 _, allocK z2 _, allocK z3 _, allocK z4 _, allocK z5 _, allocK z6 _, allocK z7 _, allocK y1 _, by go_simp, by go_simp, by go_simp, by go_simp, by go_simp, by go_simp⟩ ?_
            rintro v4 ⟨Hv4, lt_v4, z0_v4, z1_v4, z2_v4, z3_v4, z4_v4, z5_v4, z6_v4, z7_v4, y1_v4, i0_v4, i1_v4, i2_v4, i3_v4, i4_v4, i5_v4⟩
            refine hK.out _ _ (by (try dsimp only); exact ⟨z0_v4, z1_v4, z2_v4, z3_v4, z4_v4, z5_v4, z6_v4⟩) (fun hHeld => ?_)
            clear hK K
            try simp only [Act.put, List.setIfInBounds_toArray, List.set_cons_zero, List.set_cons_succ]
            refine wpAnyH_ready (rs := [3]) (by kernel_rfl) (by simp) ?_
            refine AllReadyH.cons rfl (fun K hK => ?_) AllReadyH.nil
            go_simp
            go_at_call 66
            refine (typesR _ x.params _ (by first | exact sp.out.mono mTy Hv4.out Hv4.out.size | exact sp.out.mono mTy Hv4.out.drew Hv4.out.size) (by omega)).mono ?_
            rintro e v5 ⟨rfl, hb⟩
            replace hb : Below v4.heap.size v4 v5 := by first | exact hb | exact ((Below.refl _ _).drew).trans hb
            have z0_v5 := kept hb (lt_cell' z0_v4) z0_v4
            have z1_v5 := kept hb (lt_cell' z1_v4) z1_v4
            have z2_v5 := kept hb (lt_cell' z2_v4) z2_v4
            have z3_v5 := kept hb (lt_cell' z3_v4) z3_v4
            have z4_v5 := kept hb (lt_cell' z4_v4) z4_v4
            have z5_v5 := kept hb (lt_cell' z5_v4) z5_v4
            have z6_v5 := kept hb (lt_cell' z6_v4) z6_v4
            have z7_v5 := kept hb (lt_cell' z7_v4) z7_v4
            have y1_v5 := kept hb (lt_cell' y1_v4) y1_v4
            have i0_v5 := kept hb (lt_cell' i0_v4) i0_v4
            have i1_v5 := kept hb (lt_cell' i1_v4) i1_v4
            have i2_v5 := kept hb (lt_cell' i2_v4) i2_v4
            have i3_v5 := kept hb (lt_cell' i3_v4) i3_v4
            have i4_v5 := kept hb (lt_cell' i4_v4) i4_v4
            have i5_v5 := kept hb (lt_cell' i5_v4) i5_v4
            have Hv5 := Lib.hid (Hv4.out.trans (hb.mono Hv4.out.size))
            clear hb
            go_simp
            refine hK.out _ _ (by (try dsimp only); exact ⟨z0_v5, z1_v5, z2_v5, z3_v5, z4_v5, z5_v5, z6_v5⟩) (fun hHeld => ?_)
            clear hK K
            try simp only [Act.put, List.setIfInBounds_toArray, List.set_cons_zero, List.set_cons_succ]
            have h1 := S_app (bk) (lst tyB x.params)
            have h2 := S_sum (a := bk) (b := lst tyB x.params) (by omega)
            refine Drawn.tk 4 (some 72) rfl rfl (by assumption) ?_
            try simp only [Act.put, List.setIfInBounds_toArray, List.set_cons_zero, List.set_cons_succ]
            clear h1 h2
            refine wpAnyH_ready (rs := [21]) (by kernel_rfl) (by simp) ?_
            refine AllReadyH.cons rfl (fun K hK => ?_) AllReadyH.nil
            go_simp
            go_at_call 65
            refine (numbers6R _ _ _ _ _ _ _ _ ⟨i0_v5, i1_v5, i2_v5, i3_v5, i4_v5, i5_v5⟩ ⟨oks, okc.out⟩).mono ?_
            rintro e v6 ⟨rfl, hb⟩
            replace hb : Below v5.heap.size v5 v6 := by first | exact hb | exact ((Below.refl _ _).drew).trans hb
            have z0_v6 := kept hb (lt_cell' z0_v5) z0_v5
            have z1_v6 := kept hb (lt_cell' z1_v5) z1_v5
            have z2_v6 := kept hb (lt_cell' z2_v5) z2_v5
            have z3_v6 := kept hb (lt_cell' z3_v5) z3_v5
            have z4_v6 := kept hb (lt_cell' z4_v5) z4_v5
            have z5_v6 := kept hb (lt_cell' z5_v5) z5_v5
            have z6_v6 := kept hb (lt_cell' z6_v5) z6_v5
            have z7_v6 := kept hb (lt_cell' z7_v5) z7_v5
            have y1_v6 := kept hb (lt_cell' y1_v5) y1_v5
            have i0_v6 := kept hb (lt_cell' i0_v5) i0_v5
            have i1_v6 := kept hb (lt_cell' i1_v5) i1_v5
            have i2_v6 := kept hb (lt_cell' i2_v5) i2_v5
            have i3_v6 := kept hb (lt_cell' i3_v5) i3_v5
            have i4_v6 := kept hb (lt_cell' i4_v5) i4_v5
            have i5_v6 := kept hb (lt_cell' i5_v5) i5_v5
            have Hv6 := Lib.hid (Hv5.out.trans (hb.mono Hv5.out.size))
            clear hb
            go_simp
            refine hK.out _ _ (by (try dsimp only); exact ⟨z0_v6, z1_v6, z2_v6, z3_v6, z4_v6, z5_v6, z6_v6⟩) (fun hHeld => ?_)
            clear hK K
            try simp only [Act.put, List.setIfInBounds_toArray, List.set_cons_zero, List.set_cons_succ]
            have h1 := S_app (bk ++ lst tyB x.params) (Bytes.wide x.ret.kind ++ (Bytes.wide x.ret.cls ++ (Bytes.wide x.stack ++ (Bytes.wide x.locals ++ (Bytes.wide x.regs ++ Bytes.wide (x.code.length : Int))))))
            have h2 := S_sum (a := bk ++ lst tyB x.params) (b := Bytes.wide x.ret.kind ++ (Bytes.wide x.ret.cls ++ (Bytes.wide x.stack ++ (Bytes.wide x.locals ++ (Bytes.wide x.regs ++ Bytes.wide (x.code.length : Int)))))) (by simp only [List.length_append, wide_len]; omega)
            refine Drawn.tk 22 (some 90) rfl rfl (by assumption) ?_
            try simp only [Act.put, List.setIfInBounds_toArray, List.set_cons_zero, List.set_cons_succ]
            clear h1 h2
            refine Drawn.tk 23 (some 4) rfl rfl (by assumption) ?_
            try simp only [Act.put, List.setIfInBounds_toArray, List.set_cons_zero, List.set_cons_succ]
            refine wpAnyH_done (by kernel_rfl) ?_ _
            clear z0_v6 z1_v6 z2_v6 z3_v6 z4_v6 i0_v6 i1_v6 i2_v6 i3_v6 i4_v6 i5_v6
            go_wp2_with fail
            go_meet
            case rel => exact ⟨by simp only [List.append_assoc], Hv6, y1_v6, z6_v6, z7_v6⟩
        case rest =>
        obtain ⟨rfl, hb3, z1, z6', z7'⟩ := hcut
        clear y1 z0 z2 z3 z4 z5 z6 z7
        have z6 := z6'
        have z7 := z7'
        clear z6' z7'
        obtain ⟨bm, hbm⟩ : ∃ bm, Hid (bk' ++ lst tyB x.params ++ (Bytes.wide x.ret.kind ++ (Bytes.wide x.ret.cls ++ (Bytes.wide x.stack ++ (Bytes.wide x.locals ++ (Bytes.wide x.regs ++ Bytes.wide (x.code.length : Int)))))) = bm) := ⟨_, rfl⟩
        have hbml : bm.length ≤ 6000100 := by rw [← hbm.out]; simp only [List.length_append, wide_len]; omega
        rw [hbm.out]
        go_wp2_with fail
        go_loopw [4, 8] (fun s i wr => ∃ j : Nat, j ≤ x.code.length ∧ i = .int .i64 j ∧ s = .string (S (bm ++ (x.code.take j).flatMap insB)) ∧ Hid (Below w.heap.size w wr) ∧ nm < wr.heap.size ∧ wr.cell? ⟨w.heap.size, 1, none⟩ = some (.slice (some ⟨b1, o1, none⟩) f.methods.length mcap) ∧ wr.cell? ⟨nm, 6, none⟩ = some (.slice da x.code.length dcap) ∧ wr.cell? ⟨nm, 7, none⟩ = some (.slice ha x.handlers.length hcap)) (fun _ i _ => x.code.length - (intOf i).toNat)
        case atStart => exact ⟨0, by omega, rfl, by simp, hb3, lt_cell' z6, z1, z6, z7⟩
        case round =>
        obtain ⟨j3, hj3, rfl, rfl, hbi0, hnl, y1, q6, q7⟩ := hrel
        clear z1 z6 z7
        by_cases hlt3 : j3 < x.code.length
        · obtain ⟨a, cap', ha', _, _, hel⟩ := sc.out
          simp only [Value.slice.injEq] at ha'
          obtain ⟨rfl, _, rfl⟩ := ha'
          obtain ⟨b2, o2, rfl, hb2, he⟩ := hel j3 hlt3
          have hst3 := Lib.hid (List.take_succ_eq_append_getElem hlt3)
          obtain ⟨x2, hx2⟩ := at_of hlt3
          rw [hx2.out] at he
          rw [hx2.out] at hst3
          have hle : ((x.code.take (j3 + 1)).flatMap insB).length ≤ (x.code.flatMap insB).length := flat_le insB x.code (j3 + 1)
          rw [hst3.out, List.flatMap_append, List.length_append, List.flatMap_cons, List.flatMap_nil, List.append_nil] at hle
          have hal : (lst Bytes.wide x2.args).length ≤ 2000000 := by simp only [insB, List.length_append] at hle; omega
          have hal2 : x2.args.length ≤ 2000000 := by rw [lst, List.length_append, wides_len] at hal; omega
          obtain ⟨bn, hbn'⟩ : ∃ bn, Hid (bm ++ (x.code.take j3).flatMap insB = bn) := ⟨_, rfl⟩
          have hbnl : bn.length ≤ 8000100 := by rw [← hbn'.out, List.length_append]; omega
          rw [hbn'.out]
          obtain ⟨g0, g1, g2, g3, g4, oki, va, g5, sar⟩ := he
          have k0 := kept hbi0.out hb2 g0
          have k1 := kept hbi0.out hb2 g1
          have k2 := kept hbi0.out hb2 g2
          have k3 := kept hbi0.out hb2 g3
          have k4 := kept hbi0.out hb2 g4
          have k5 := kept hbi0.out hb2 g5
          have sa := Lib.hid sar
          obtain ⟨aa, acap, hva, _, _, _⟩ := sar
          subst hva
          have oka := Lib.hid (show Ok (x2.args.length : Int) by unfold Ok; omega)
          have hI3 : (j3 : Int) < x.code.length := by omega
          clear hel g0 g1 g2 g3 g4 g5 hle
          go_wp2_with fail
          refine nameW (fun W' => Hid (Below w.heap.size w W') ∧ wr.heap.size < W'.heap.size ∧ nm < W'.heap.size ∧ W'.cell? ⟨w.heap.size, 1, none⟩ = some (.slice (some ⟨b1, o1, none⟩) f.methods.length mcap) ∧ W'.cell? ⟨nm, 6, none⟩ = some (.slice (some ⟨b2, o2, none⟩) x.code.length dcap) ∧ W'.cell? ⟨nm, 7, none⟩ = some (.slice ha x.handlers.length hcap) ∧ W'.cell? ⟨wr.heap.size, 0, none⟩ = some (.int .i64 x2.op) ∧ W'.cell? ⟨wr.heap.size, 1, none⟩ = some (.int .i64 x2.a) ∧ W'.cell? ⟨wr.heap.size, 2, none⟩ = some (.int .i64 x2.b) ∧ W'.cell? ⟨wr.heap.size, 3, none⟩ = some (.int .i64 x2.c) ∧ W'.cell? ⟨wr.heap.size, 4, none⟩ = some (.int .i64 x2.n) ∧ W'.cell? ⟨wr.heap.size, 5, none⟩ = some (.slice aa x2.args.length acap)) ⟨Lib.hid (hbi0.out.alloc hbi0.out.size _), by simp, by simp; omega, allocK y1 _, allocK q6 _, allocK q7 _, by go_simp, by go_simp, by go_simp, by go_simp, by go_simp, by go_simp⟩ ?_
          rintro wi ⟨hbi, hilt, hnli, y1', z6, z7, e0, e1, e2, e3, e4, e5⟩
          clear y1 q6 q7 k0 k1 k2 k3 k4 k5
          have y1 := y1'
          clear y1'
          generalize wr.heap.size = ni at *
          refine wp_region_held_drew (S := fun w' => w'.cell? ⟨ni, 0, none⟩ = some (.int .i64 x2.op) ∧ w'.cell? ⟨ni, 1, none⟩ = some (.int .i64 x2.a) ∧ w'.cell? ⟨ni, 2, none⟩ = some (.int .i64 x2.b) ∧ w'.cell? ⟨ni, 3, none⟩ = some (.int .i64 x2.c) ∧ w'.cell? ⟨ni, 4, none⟩ = some (.int .i64 x2.n) ∧ w'.cell? ⟨ni, 5, none⟩ = some (.slice aa x2.args.length acap)) (by kernel_rfl) (by (try dsimp only); exact ⟨e0, e1, e2, e3, e4, e5⟩) (fun hHeld => ?_)
          refine Drawn.tk 0 (some 103) rfl rfl (by assumption) ?_
          try simp only [Act.put, List.setIfInBounds_toArray, List.set_cons_zero, List.set_cons_succ]
          refine Drawn.tk 1 (some 104) rfl rfl (by assumption) ?_
          try simp only [Act.put, List.setIfInBounds_toArray, List.set_cons_zero, List.set_cons_succ]
          refine Drawn.tk 2 (some 105) rfl rfl (by assumption) ?_
          try simp only [Act.put, List.setIfInBounds_toArray, List.set_cons_zero, List.set_cons_succ]
          refine Drawn.tk 3 (some 106) rfl rfl (by assumption) ?_
          try simp only [Act.put, List.setIfInBounds_toArray, List.set_cons_zero, List.set_cons_succ]
          refine Drawn.tk 4 (some 107) rfl rfl (by assumption) ?_
          try simp only [Act.put, List.setIfInBounds_toArray, List.set_cons_zero, List.set_cons_succ]
          refine Drawn.tk 5 (some 108) rfl rfl (by assumption) ?_
          try simp only [Act.put, List.setIfInBounds_toArray, List.set_cons_zero, List.set_cons_succ]
          refine Drawn.tk 6 (some 109) rfl rfl (by assumption) ?_
          try simp only [Act.put, List.setIfInBounds_toArray, List.set_cons_zero, List.set_cons_succ]
          refine Drawn.tk 7 (some 110) rfl rfl (by assumption) ?_
          try simp only [Act.put, List.setIfInBounds_toArray, List.set_cons_zero, List.set_cons_succ]
          refine Drawn.tk 8 (some 111) rfl rfl (by assumption) ?_
          try simp only [Act.put, List.setIfInBounds_toArray, List.set_cons_zero, List.set_cons_succ]
          refine Drawn.tk 12 (some 115) rfl rfl (by assumption) ?_
          try simp only [Act.put, List.setIfInBounds_toArray, List.set_cons_zero, List.set_cons_succ]
          refine Drawn.tk 13 (some 116) rfl rfl (by assumption) ?_
          try simp only [Act.put, List.setIfInBounds_toArray, List.set_cons_zero, List.set_cons_succ]
          refine Drawn.tk 16 (some 119) rfl rfl (by assumption) ?_
          try simp only [Act.put, List.setIfInBounds_toArray, List.set_cons_zero, List.set_cons_succ]
          refine Drawn.tk 17 (some 120) rfl rfl (by assumption) ?_
          try simp only [Act.put, List.setIfInBounds_toArray, List.set_cons_zero, List.set_cons_succ]
          refine Drawn.tk 18 (some 121) rfl rfl (by assumption) ?_
          try simp only [Act.put, List.setIfInBounds_toArray, List.set_cons_zero, List.set_cons_succ]
          refine Drawn.tk 22 (some 125) rfl rfl (by assumption) ?_
          try simp only [Act.put, List.setIfInBounds_toArray, List.set_cons_zero, List.set_cons_succ]
          refine Drawn.tk 23 (some 126) rfl rfl (by assumption) ?_
          try simp only [Act.put, List.setIfInBounds_toArray, List.set_cons_zero, List.set_cons_succ]
          refine wpAnyH_ready (rs := [9, 19]) (by kernel_rfl) (by simp) ?_
          refine AllReadyH.cons rfl (fun K hK => ?_) (AllReadyH.cons rfl (fun K hK => ?_) AllReadyH.nil)
          · skip
            go_simp
            refine nameW (fun W' => Hid (Below w.heap.size w W') ∧ wi.heap.size < W'.heap.size ∧ W'.cell? ⟨ni, 0, none⟩ = some (.int .i64 x2.op) ∧ W'.cell? ⟨ni, 1, none⟩ = some (.int .i64 x2.a) ∧ W'.cell? ⟨ni, 2, none⟩ = some (.int .i64 x2.b) ∧ W'.cell? ⟨ni, 3, none⟩ = some (.int .i64 x2.c) ∧ W'.cell? ⟨ni, 4, none⟩ = some (.int .i64 x2.n) ∧ W'.cell? ⟨ni, 5, none⟩ = some (.slice aa x2.args.length acap) ∧ W'.cell? ⟨w.heap.size, 1, none⟩ = some (.slice (some ⟨b1, o1, none⟩) f.methods.length mcap) ∧ W'.cell? ⟨nm, 6, none⟩ = some (.slice (some ⟨b2, o2, none⟩) x.code.length dcap) ∧ W'.cell? ⟨nm, 7, none⟩ = some (.slice ha x.handlers.length hcap) ∧ W'.cell? ⟨wi.heap.size, 0, none⟩ = some (.int .i64 x2.op) ∧ W'.cell? ⟨wi.heap.size, 1, none⟩ = some (.int .i64 x2.a) ∧ W'.cell? ⟨wi.heap.size, 2, none⟩ = some (.int .i64 x2.b) ∧ W'.cell? ⟨wi.heap.size, 3, none⟩ = some (.int .i64 x2.c)) ⟨by first | exact Lib.hid (hbi.out.alloc hbi.out.size _) | exact Lib.hid (hbi.out.alloc hbi.out.size _).drew, by simp, allocK e0 _, allocK e1 _, allocK e2 _, allocK e3 _, allocK e4 _, allocK e5 _, allocK y1 _, allocK z6 _, allocK z7 _, by go_simp, by go_simp, by go_simp, by go_simp⟩ ?_
            rintro v1 ⟨Hv1, lt_v1, e0_v1, e1_v1, e2_v1, e3_v1, e4_v1, e5_v1, y1_v1, z6_v1, z7_v1, i0_v1, i1_v1, i2_v1, i3_v1⟩
            refine hK.out _ _ (by (try dsimp only); exact ⟨e0_v1, e1_v1, e2_v1, e3_v1, e4_v1, e5_v1⟩) (fun hHeld => ?_)
            clear hK K
            try simp only [Act.put, List.setIfInBounds_toArray, List.set_cons_zero, List.set_cons_succ]
            refine wpAnyH_ready (rs := [10, 19]) (by kernel_rfl) (by simp) ?_
            refine AllReadyH.cons rfl (fun K hK => ?_) (AllReadyH.cons rfl (fun K hK => ?_) AllReadyH.nil)
            · skip
              go_simp
              go_at_call 65
              refine (numbers4R _ _ _ _ _ _ ⟨i0_v1, i1_v1, i2_v1, i3_v1⟩ ⟨oki.1, oki.2.1, oki.2.2.1, oki.2.2.2.1⟩).mono ?_
              rintro e v2 ⟨rfl, hb⟩
              replace hb : Below v1.heap.size v1 v2 := by first | exact hb | exact ((Below.refl _ _).drew).trans hb
              have e0_v2 := kept hb (lt_cell' e0_v1) e0_v1
              have e1_v2 := kept hb (lt_cell' e1_v1) e1_v1
              have e2_v2 := kept hb (lt_cell' e2_v1) e2_v1
              have e3_v2 := kept hb (lt_cell' e3_v1) e3_v1
              have e4_v2 := kept hb (lt_cell' e4_v1) e4_v1
              have e5_v2 := kept hb (lt_cell' e5_v1) e5_v1
              have y1_v2 := kept hb (lt_cell' y1_v1) y1_v1
              have z6_v2 := kept hb (lt_cell' z6_v1) z6_v1
              have z7_v2 := kept hb (lt_cell' z7_v1) z7_v1
              have i0_v2 := kept hb (lt_cell' i0_v1) i0_v1
              have i1_v2 := kept hb (lt_cell' i1_v1) i1_v1
              have i2_v2 := kept hb (lt_cell' i2_v1) i2_v1
              have i3_v2 := kept hb (lt_cell' i3_v1) i3_v1
              have Hv2 := Lib.hid (Hv1.out.trans (hb.mono Hv1.out.size))
              clear hb
              go_simp
              refine hK.out _ _ (by (try dsimp only); exact ⟨e0_v2, e1_v2, e2_v2, e3_v2, e4_v2, e5_v2⟩) (fun hHeld => ?_)
              clear hK K
              try simp only [Act.put, List.setIfInBounds_toArray, List.set_cons_zero, List.set_cons_succ]
              have h1 := S_app (bn) (Bytes.wide x2.op ++ (Bytes.wide x2.a ++ (Bytes.wide x2.b ++ (Bytes.wide x2.c))))
              have h2 := S_sum (a := bn) (b := Bytes.wide x2.op ++ (Bytes.wide x2.a ++ (Bytes.wide x2.b ++ (Bytes.wide x2.c)))) (by simp only [List.length_append, wide_len, wides_len]; omega)
              refine Drawn.tk 11 (some 114) rfl rfl (by assumption) ?_
              try simp only [Act.put, List.setIfInBounds_toArray, List.set_cons_zero, List.set_cons_succ]
              clear h1 h2
              refine wpAnyH_ready (rs := [14, 19]) (by kernel_rfl) (by simp) ?_
              refine AllReadyH.cons rfl (fun K hK => ?_) (AllReadyH.cons rfl (fun K hK => ?_) AllReadyH.nil)
              · skip
                go_simp
                go_at_call 67
                refine (wideR _ _ oki.2.2.2.2).mono ?_
                rintro e v3 ⟨rfl, hb⟩
                replace hb : Below v2.heap.size v2 v3 := by first | exact hb | exact ((Below.refl _ _).drew).trans hb
                have e0_v3 := kept hb (lt_cell' e0_v2) e0_v2
                have e1_v3 := kept hb (lt_cell' e1_v2) e1_v2
                have e2_v3 := kept hb (lt_cell' e2_v2) e2_v2
                have e3_v3 := kept hb (lt_cell' e3_v2) e3_v2
                have e4_v3 := kept hb (lt_cell' e4_v2) e4_v2
                have e5_v3 := kept hb (lt_cell' e5_v2) e5_v2
                have y1_v3 := kept hb (lt_cell' y1_v2) y1_v2
                have z6_v3 := kept hb (lt_cell' z6_v2) z6_v2
                have z7_v3 := kept hb (lt_cell' z7_v2) z7_v2
                have i0_v3 := kept hb (lt_cell' i0_v2) i0_v2
                have i1_v3 := kept hb (lt_cell' i1_v2) i1_v2
                have i2_v3 := kept hb (lt_cell' i2_v2) i2_v2
                have i3_v3 := kept hb (lt_cell' i3_v2) i3_v2
                have Hv3 := Lib.hid (Hv2.out.trans (hb.mono Hv2.out.size))
                clear hb
                go_simp
                refine hK.out _ _ (by (try dsimp only); exact ⟨e0_v3, e1_v3, e2_v3, e3_v3, e4_v3, e5_v3⟩) (fun hHeld => ?_)
                clear hK K
                try simp only [Act.put, List.setIfInBounds_toArray, List.set_cons_zero, List.set_cons_succ]
                have h1 := S_app (bn ++ (Bytes.wide x2.op ++ (Bytes.wide x2.a ++ (Bytes.wide x2.b ++ (Bytes.wide x2.c))))) (Bytes.wide x2.n)
                have h2 := S_sum (a := bn ++ (Bytes.wide x2.op ++ (Bytes.wide x2.a ++ (Bytes.wide x2.b ++ (Bytes.wide x2.c))))) (b := Bytes.wide x2.n) (by simp only [List.length_append, wide_len, wides_len]; omega)
                refine Drawn.tk 15 (some 118) rfl rfl (by assumption) ?_
                try simp only [Act.put, List.setIfInBounds_toArray, List.set_cons_zero, List.set_cons_succ]
                clear h1 h2
                refine wpAnyH_ready (rs := [19]) (by kernel_rfl) (by simp) ?_
                refine AllReadyH.cons rfl (fun K hK => ?_) AllReadyH.nil
                go_simp
                refine nameW (fun W' => Hid (Below w.heap.size w W') ∧ v3.heap.size < W'.heap.size ∧ W'.cell? ⟨ni, 0, none⟩ = some (.int .i64 x2.op) ∧ W'.cell? ⟨ni, 1, none⟩ = some (.int .i64 x2.a) ∧ W'.cell? ⟨ni, 2, none⟩ = some (.int .i64 x2.b) ∧ W'.cell? ⟨ni, 3, none⟩ = some (.int .i64 x2.c) ∧ W'.cell? ⟨ni, 4, none⟩ = some (.int .i64 x2.n) ∧ W'.cell? ⟨ni, 5, none⟩ = some (.slice aa x2.args.length acap) ∧ W'.cell? ⟨w.heap.size, 1, none⟩ = some (.slice (some ⟨b1, o1, none⟩) f.methods.length mcap) ∧ W'.cell? ⟨nm, 6, none⟩ = some (.slice (some ⟨b2, o2, none⟩) x.code.length dcap) ∧ W'.cell? ⟨nm, 7, none⟩ = some (.slice ha x.handlers.length hcap) ∧ W'.cell? ⟨wi.heap.size, 0, none⟩ = some (.int .i64 x2.op) ∧ W'.cell? ⟨wi.heap.size, 1, none⟩ = some (.int .i64 x2.a) ∧ W'.cell? ⟨wi.heap.size, 2, none⟩ = some (.int .i64 x2.b) ∧ W'.cell? ⟨wi.heap.size, 3, none⟩ = some (.int .i64 x2.c) ∧ W'.cell? ⟨v3.heap.size, 0, none⟩ = some (.int .i64 (x2.args.length : Int))) ⟨by first | exact Lib.hid (Hv3.out.alloc Hv3.out.size _) | exact Lib.hid (Hv3.out.alloc Hv3.out.size _).drew, by simp, allocK e0_v3 _, allocK e1_v3 _, allocK e2_v3 _, allocK e3_v3 _, allocK e4_v3 _, allocK e5_v3 _, allocK y1_v3 _, allocK z6_v3 _, allocK z7_v3 _, allocK i0_v3 _, allocK i1_v3 _, allocK i2_v3 _, allocK i3_v3 _, by go_simp⟩ ?_
                rintro v4 ⟨Hv4, lt_v4, e0_v4, e1_v4, e2_v4, e3_v4, e4_v4, e5_v4, y1_v4, z6_v4, z7_v4, i0_v4, i1_v4, i2_v4, i3_v4, ia_v4⟩
                refine hK.out _ _ (by (try dsimp only); exact ⟨e0_v4, e1_v4, e2_v4, e3_v4, e4_v4, e5_v4⟩) (fun hHeld => ?_)
                clear hK K
                try simp only [Act.put, List.setIfInBounds_toArray, List.set_cons_zero, List.set_cons_succ]
                refine wpAnyH_ready (rs := [20]) (by kernel_rfl) (by simp) ?_
                refine AllReadyH.cons rfl (fun K hK => ?_) AllReadyH.nil
                go_simp
                go_at_call 65
                refine (numberR _ _ _ ia_v4 oka.out).mono ?_
                rintro e v5 ⟨rfl, hb⟩
                replace hb : Below v4.heap.size v4 v5 := by first | exact hb | exact ((Below.refl _ _).drew).trans hb
                have e0_v5 := kept hb (lt_cell' e0_v4) e0_v4
                have e1_v5 := kept hb (lt_cell' e1_v4) e1_v4
                have e2_v5 := kept hb (lt_cell' e2_v4) e2_v4
                have e3_v5 := kept hb (lt_cell' e3_v4) e3_v4
                have e4_v5 := kept hb (lt_cell' e4_v4) e4_v4
                have e5_v5 := kept hb (lt_cell' e5_v4) e5_v4
                have y1_v5 := kept hb (lt_cell' y1_v4) y1_v4
                have z6_v5 := kept hb (lt_cell' z6_v4) z6_v4
                have z7_v5 := kept hb (lt_cell' z7_v4) z7_v4
                have i0_v5 := kept hb (lt_cell' i0_v4) i0_v4
                have i1_v5 := kept hb (lt_cell' i1_v4) i1_v4
                have i2_v5 := kept hb (lt_cell' i2_v4) i2_v4
                have i3_v5 := kept hb (lt_cell' i3_v4) i3_v4
                have ia_v5 := kept hb (lt_cell' ia_v4) ia_v4
                have Hv5 := Lib.hid (Hv4.out.trans (hb.mono Hv4.out.size))
                clear hb
                go_simp
                refine hK.out _ _ (by (try dsimp only); exact ⟨e0_v5, e1_v5, e2_v5, e3_v5, e4_v5, e5_v5⟩) (fun hHeld => ?_)
                clear hK K
                try simp only [Act.put, List.setIfInBounds_toArray, List.set_cons_zero, List.set_cons_succ]
                have h1 := S_app (bn ++ (Bytes.wide x2.op ++ (Bytes.wide x2.a ++ (Bytes.wide x2.b ++ (Bytes.wide x2.c ++ (Bytes.wide x2.n)))))) (Bytes.wide (x2.args.length : Int))
                have h2 := S_sum (a := bn ++ (Bytes.wide x2.op ++ (Bytes.wide x2.a ++ (Bytes.wide x2.b ++ (Bytes.wide x2.c ++ (Bytes.wide x2.n)))))) (b := Bytes.wide (x2.args.length : Int)) (by simp only [List.length_append, wide_len, wides_len]; omega)
                refine Drawn.tk 21 (some 124) rfl rfl (by assumption) ?_
                try simp only [Act.put, List.setIfInBounds_toArray, List.set_cons_zero, List.set_cons_succ]
                clear h1 h2
                refine wpAnyH_ready (rs := [24]) (by kernel_rfl) (by simp) ?_
                refine AllReadyH.cons rfl (fun K hK => ?_) AllReadyH.nil
                go_simp
                go_at_call 65
                refine (numbersR _ x2.args _ (sa.out.mono mInt Hv5.out Hv5.out.size) (by omega)).mono ?_
                rintro e v6 ⟨rfl, hb⟩
                replace hb : Below v5.heap.size v5 v6 := by first | exact hb | exact ((Below.refl _ _).drew).trans hb
                have e0_v6 := kept hb (lt_cell' e0_v5) e0_v5
                have e1_v6 := kept hb (lt_cell' e1_v5) e1_v5
                have e2_v6 := kept hb (lt_cell' e2_v5) e2_v5
                have e3_v6 := kept hb (lt_cell' e3_v5) e3_v5
                have e4_v6 := kept hb (lt_cell' e4_v5) e4_v5
                have e5_v6 := kept hb (lt_cell' e5_v5) e5_v5
                have y1_v6 := kept hb (lt_cell' y1_v5) y1_v5
                have z6_v6 := kept hb (lt_cell' z6_v5) z6_v5
                have z7_v6 := kept hb (lt_cell' z7_v5) z7_v5
                have i0_v6 := kept hb (lt_cell' i0_v5) i0_v5
                have i1_v6 := kept hb (lt_cell' i1_v5) i1_v5
                have i2_v6 := kept hb (lt_cell' i2_v5) i2_v5
                have i3_v6 := kept hb (lt_cell' i3_v5) i3_v5
                have ia_v6 := kept hb (lt_cell' ia_v5) ia_v5
                have Hv6 := Lib.hid (Hv5.out.trans (hb.mono Hv5.out.size))
                clear hb
                go_simp
                refine hK.out _ _ (by (try dsimp only); exact ⟨e0_v6, e1_v6, e2_v6, e3_v6, e4_v6, e5_v6⟩) (fun hHeld => ?_)
                clear hK K
                try simp only [Act.put, List.setIfInBounds_toArray, List.set_cons_zero, List.set_cons_succ]
                have h1 := S_app (bn ++ (Bytes.wide x2.op ++ (Bytes.wide x2.a ++ (Bytes.wide x2.b ++ (Bytes.wide x2.c ++ (Bytes.wide x2.n ++ (Bytes.wide (x2.args.length : Int)))))))) (x2.args.flatMap Bytes.wide)
                have h2 := S_sum (a := bn ++ (Bytes.wide x2.op ++ (Bytes.wide x2.a ++ (Bytes.wide x2.b ++ (Bytes.wide x2.c ++ (Bytes.wide x2.n ++ (Bytes.wide (x2.args.length : Int)))))))) (b := x2.args.flatMap Bytes.wide) (by simp only [List.length_append, wide_len, wides_len]; omega)
                refine Drawn.tk 25 (some 128) rfl rfl (by assumption) ?_
                try simp only [Act.put, List.setIfInBounds_toArray, List.set_cons_zero, List.set_cons_succ]
                clear h1 h2
                refine Drawn.tk 26 (some 4) rfl rfl (by assumption) ?_
                try simp only [Act.put, List.setIfInBounds_toArray, List.set_cons_zero, List.set_cons_succ]
                refine wpAnyH_done (by kernel_rfl) ?_ _
                clear e0_v6 e1_v6 e2_v6 e3_v6 e4_v6 e5_v6 i0_v6 i1_v6 i2_v6 i3_v6 ia_v6
                go_wp2_with fail
                go_roundw
                case rel => exact ⟨j3 + 1, by omega, by go_num, by rw [hst3.out, List.flatMap_append, ← List.append_assoc bm, hbn'.out]; simp [Bytes.insB, lst], Hv6, lt_cell' z6_v6, y1_v6, z6_v6, z7_v6⟩
                case measure => simp [intOf]; omega
              · skip
                go_simp
                refine nameW (fun W' => Hid (Below w.heap.size w W') ∧ v2.heap.size < W'.heap.size ∧ W'.cell? ⟨ni, 0, none⟩ = some (.int .i64 x2.op) ∧ W'.cell? ⟨ni, 1, none⟩ = some (.int .i64 x2.a) ∧ W'.cell? ⟨ni, 2, none⟩ = some (.int .i64 x2.b) ∧ W'.cell? ⟨ni, 3, none⟩ = some (.int .i64 x2.c) ∧ W'.cell? ⟨ni, 4, none⟩ = some (.int .i64 x2.n) ∧ W'.cell? ⟨ni, 5, none⟩ = some (.slice aa x2.args.length acap) ∧ W'.cell? ⟨w.heap.size, 1, none⟩ = some (.slice (some ⟨b1, o1, none⟩) f.methods.length mcap) ∧ W'.cell? ⟨nm, 6, none⟩ = some (.slice (some ⟨b2, o2, none⟩) x.code.length dcap) ∧ W'.cell? ⟨nm, 7, none⟩ = some (.slice ha x.handlers.length hcap) ∧ W'.cell? ⟨wi.heap.size, 0, none⟩ = some (.int .i64 x2.op) ∧ W'.cell? ⟨wi.heap.size, 1, none⟩ = some (.int .i64 x2.a) ∧ W'.cell? ⟨wi.heap.size, 2, none⟩ = some (.int .i64 x2.b) ∧ W'.cell? ⟨wi.heap.size, 3, none⟩ = some (.int .i64 x2.c) ∧ W'.cell? ⟨v2.heap.size, 0, none⟩ = some (.int .i64 (x2.args.length : Int))) ⟨by first | exact Lib.hid (Hv2.out.alloc Hv2.out.size _) | exact Lib.hid (Hv2.out.alloc Hv2.out.size _).drew, by simp, allocK e0_v2 _, allocK e1_v2 _, allocK e2_v2 _, allocK e3_v2 _, allocK e4_v2 _, allocK e5_v2 _, allocK y1_v2 _, allocK z6_v2 _, allocK z7_v2 _, allocK i0_v2 _, allocK i1_v2 _, allocK i2_v2 _, allocK i3_v2 _, by go_simp⟩ ?_
                rintro v7 ⟨Hv7, lt_v7, e0_v7, e1_v7, e2_v7, e3_v7, e4_v7, e5_v7, y1_v7, z6_v7, z7_v7, i0_v7, i1_v7, i2_v7, i3_v7, ia_v7⟩
                refine hK.out _ _ (by (try dsimp only); exact ⟨e0_v7, e1_v7, e2_v7, e3_v7, e4_v7, e5_v7⟩) (fun hHeld => ?_)
                clear hK K
                try simp only [Act.put, List.setIfInBounds_toArray, List.set_cons_zero, List.set_cons_succ]
                refine wpAnyH_ready (rs := [14]) (by kernel_rfl) (by simp) ?_
                refine AllReadyH.cons rfl (fun K hK => ?_) AllReadyH.nil
                go_simp
                go_at_call 67
                refine (wideR _ _ oki.2.2.2.2).mono ?_
                rintro e v8 ⟨rfl, hb⟩
                replace hb : Below v7.heap.size v7 v8 := by first | exact hb | exact ((Below.refl _ _).drew).trans hb
                have e0_v8 := kept hb (lt_cell' e0_v7) e0_v7
                have e1_v8 := kept hb (lt_cell' e1_v7) e1_v7
                have e2_v8 := kept hb (lt_cell' e2_v7) e2_v7
                have e3_v8 := kept hb (lt_cell' e3_v7) e3_v7
                have e4_v8 := kept hb (lt_cell' e4_v7) e4_v7
                have e5_v8 := kept hb (lt_cell' e5_v7) e5_v7
                have y1_v8 := kept hb (lt_cell' y1_v7) y1_v7
                have z6_v8 := kept hb (lt_cell' z6_v7) z6_v7
                have z7_v8 := kept hb (lt_cell' z7_v7) z7_v7
                have i0_v8 := kept hb (lt_cell' i0_v7) i0_v7
                have i1_v8 := kept hb (lt_cell' i1_v7) i1_v7
                have i2_v8 := kept hb (lt_cell' i2_v7) i2_v7
                have i3_v8 := kept hb (lt_cell' i3_v7) i3_v7
                have ia_v8 := kept hb (lt_cell' ia_v7) ia_v7
                have Hv8 := Lib.hid (Hv7.out.trans (hb.mono Hv7.out.size))
                clear hb
                go_simp
                refine hK.out _ _ (by (try dsimp only); exact ⟨e0_v8, e1_v8, e2_v8, e3_v8, e4_v8, e5_v8⟩) (fun hHeld => ?_)
                clear hK K
                try simp only [Act.put, List.setIfInBounds_toArray, List.set_cons_zero, List.set_cons_succ]
                have h1 := S_app (bn ++ (Bytes.wide x2.op ++ (Bytes.wide x2.a ++ (Bytes.wide x2.b ++ (Bytes.wide x2.c))))) (Bytes.wide x2.n)
                have h2 := S_sum (a := bn ++ (Bytes.wide x2.op ++ (Bytes.wide x2.a ++ (Bytes.wide x2.b ++ (Bytes.wide x2.c))))) (b := Bytes.wide x2.n) (by simp only [List.length_append, wide_len, wides_len]; omega)
                refine Drawn.tk 15 (some 118) rfl rfl (by assumption) ?_
                try simp only [Act.put, List.setIfInBounds_toArray, List.set_cons_zero, List.set_cons_succ]
                clear h1 h2
                refine wpAnyH_ready (rs := [20]) (by kernel_rfl) (by simp) ?_
                refine AllReadyH.cons rfl (fun K hK => ?_) AllReadyH.nil
                go_simp
                go_at_call 65
                refine (numberR _ _ _ ia_v8 oka.out).mono ?_
                rintro e v9 ⟨rfl, hb⟩
                replace hb : Below v8.heap.size v8 v9 := by first | exact hb | exact ((Below.refl _ _).drew).trans hb
                have e0_v9 := kept hb (lt_cell' e0_v8) e0_v8
                have e1_v9 := kept hb (lt_cell' e1_v8) e1_v8
                have e2_v9 := kept hb (lt_cell' e2_v8) e2_v8
                have e3_v9 := kept hb (lt_cell' e3_v8) e3_v8
                have e4_v9 := kept hb (lt_cell' e4_v8) e4_v8
                have e5_v9 := kept hb (lt_cell' e5_v8) e5_v8
                have y1_v9 := kept hb (lt_cell' y1_v8) y1_v8
                have z6_v9 := kept hb (lt_cell' z6_v8) z6_v8
                have z7_v9 := kept hb (lt_cell' z7_v8) z7_v8
                have i0_v9 := kept hb (lt_cell' i0_v8) i0_v8
                have i1_v9 := kept hb (lt_cell' i1_v8) i1_v8
                have i2_v9 := kept hb (lt_cell' i2_v8) i2_v8
                have i3_v9 := kept hb (lt_cell' i3_v8) i3_v8
                have ia_v9 := kept hb (lt_cell' ia_v8) ia_v8
                have Hv9 := Lib.hid (Hv8.out.trans (hb.mono Hv8.out.size))
                clear hb
                go_simp
                refine hK.out _ _ (by (try dsimp only); exact ⟨e0_v9, e1_v9, e2_v9, e3_v9, e4_v9, e5_v9⟩) (fun hHeld => ?_)
                clear hK K
                try simp only [Act.put, List.setIfInBounds_toArray, List.set_cons_zero, List.set_cons_succ]
                have h1 := S_app (bn ++ (Bytes.wide x2.op ++ (Bytes.wide x2.a ++ (Bytes.wide x2.b ++ (Bytes.wide x2.c ++ (Bytes.wide x2.n)))))) (Bytes.wide (x2.args.length : Int))
                have h2 := S_sum (a := bn ++ (Bytes.wide x2.op ++ (Bytes.wide x2.a ++ (Bytes.wide x2.b ++ (Bytes.wide x2.c ++ (Bytes.wide x2.n)))))) (b := Bytes.wide (x2.args.length : Int)) (by simp only [List.length_append, wide_len, wides_len]; omega)
                refine Drawn.tk 21 (some 124) rfl rfl (by assumption) ?_
                try simp only [Act.put, List.setIfInBounds_toArray, List.set_cons_zero, List.set_cons_succ]
                clear h1 h2
                refine wpAnyH_ready (rs := [24]) (by kernel_rfl) (by simp) ?_
                refine AllReadyH.cons rfl (fun K hK => ?_) AllReadyH.nil
                go_simp
                go_at_call 65
                refine (numbersR _ x2.args _ (sa.out.mono mInt Hv9.out Hv9.out.size) (by omega)).mono ?_
                rintro e v10 ⟨rfl, hb⟩
                replace hb : Below v9.heap.size v9 v10 := by first | exact hb | exact ((Below.refl _ _).drew).trans hb
                have e0_v10 := kept hb (lt_cell' e0_v9) e0_v9
                have e1_v10 := kept hb (lt_cell' e1_v9) e1_v9
                have e2_v10 := kept hb (lt_cell' e2_v9) e2_v9
                have e3_v10 := kept hb (lt_cell' e3_v9) e3_v9
                have e4_v10 := kept hb (lt_cell' e4_v9) e4_v9
                have e5_v10 := kept hb (lt_cell' e5_v9) e5_v9
                have y1_v10 := kept hb (lt_cell' y1_v9) y1_v9
                have z6_v10 := kept hb (lt_cell' z6_v9) z6_v9
                have z7_v10 := kept hb (lt_cell' z7_v9) z7_v9
                have i0_v10 := kept hb (lt_cell' i0_v9) i0_v9
                have i1_v10 := kept hb (lt_cell' i1_v9) i1_v9
                have i2_v10 := kept hb (lt_cell' i2_v9) i2_v9
                have i3_v10 := kept hb (lt_cell' i3_v9) i3_v9
                have ia_v10 := kept hb (lt_cell' ia_v9) ia_v9
                have Hv10 := Lib.hid (Hv9.out.trans (hb.mono Hv9.out.size))
                clear hb
                go_simp
                refine hK.out _ _ (by (try dsimp only); exact ⟨e0_v10, e1_v10, e2_v10, e3_v10, e4_v10, e5_v10⟩) (fun hHeld => ?_)
                clear hK K
                try simp only [Act.put, List.setIfInBounds_toArray, List.set_cons_zero, List.set_cons_succ]
                have h1 := S_app (bn ++ (Bytes.wide x2.op ++ (Bytes.wide x2.a ++ (Bytes.wide x2.b ++ (Bytes.wide x2.c ++ (Bytes.wide x2.n ++ (Bytes.wide (x2.args.length : Int)))))))) (x2.args.flatMap Bytes.wide)
                have h2 := S_sum (a := bn ++ (Bytes.wide x2.op ++ (Bytes.wide x2.a ++ (Bytes.wide x2.b ++ (Bytes.wide x2.c ++ (Bytes.wide x2.n ++ (Bytes.wide (x2.args.length : Int)))))))) (b := x2.args.flatMap Bytes.wide) (by simp only [List.length_append, wide_len, wides_len]; omega)
                refine Drawn.tk 25 (some 128) rfl rfl (by assumption) ?_
                try simp only [Act.put, List.setIfInBounds_toArray, List.set_cons_zero, List.set_cons_succ]
                clear h1 h2
                refine Drawn.tk 26 (some 4) rfl rfl (by assumption) ?_
                try simp only [Act.put, List.setIfInBounds_toArray, List.set_cons_zero, List.set_cons_succ]
                refine wpAnyH_done (by kernel_rfl) ?_ _
                clear e0_v10 e1_v10 e2_v10 e3_v10 e4_v10 e5_v10 i0_v10 i1_v10 i2_v10 i3_v10 ia_v10
                go_wp2_with fail
                go_roundw
                case rel => exact ⟨j3 + 1, by omega, by go_num, by rw [hst3.out, List.flatMap_append, ← List.append_assoc bm, hbn'.out]; simp [Bytes.insB, lst], Hv10, lt_cell' z6_v10, y1_v10, z6_v10, z7_v10⟩
                case measure => simp [intOf]; omega
            · skip
              go_simp
              refine nameW (fun W' => Hid (Below w.heap.size w W') ∧ v1.heap.size < W'.heap.size ∧ W'.cell? ⟨ni, 0, none⟩ = some (.int .i64 x2.op) ∧ W'.cell? ⟨ni, 1, none⟩ = some (.int .i64 x2.a) ∧ W'.cell? ⟨ni, 2, none⟩ = some (.int .i64 x2.b) ∧ W'.cell? ⟨ni, 3, none⟩ = some (.int .i64 x2.c) ∧ W'.cell? ⟨ni, 4, none⟩ = some (.int .i64 x2.n) ∧ W'.cell? ⟨ni, 5, none⟩ = some (.slice aa x2.args.length acap) ∧ W'.cell? ⟨w.heap.size, 1, none⟩ = some (.slice (some ⟨b1, o1, none⟩) f.methods.length mcap) ∧ W'.cell? ⟨nm, 6, none⟩ = some (.slice (some ⟨b2, o2, none⟩) x.code.length dcap) ∧ W'.cell? ⟨nm, 7, none⟩ = some (.slice ha x.handlers.length hcap) ∧ W'.cell? ⟨wi.heap.size, 0, none⟩ = some (.int .i64 x2.op) ∧ W'.cell? ⟨wi.heap.size, 1, none⟩ = some (.int .i64 x2.a) ∧ W'.cell? ⟨wi.heap.size, 2, none⟩ = some (.int .i64 x2.b) ∧ W'.cell? ⟨wi.heap.size, 3, none⟩ = some (.int .i64 x2.c) ∧ W'.cell? ⟨v1.heap.size, 0, none⟩ = some (.int .i64 (x2.args.length : Int))) ⟨by first | exact Lib.hid (Hv1.out.alloc Hv1.out.size _) | exact Lib.hid (Hv1.out.alloc Hv1.out.size _).drew, by simp, allocK e0_v1 _, allocK e1_v1 _, allocK e2_v1 _, allocK e3_v1 _, allocK e4_v1 _, allocK e5_v1 _, allocK y1_v1 _, allocK z6_v1 _, allocK z7_v1 _, allocK i0_v1 _, allocK i1_v1 _, allocK i2_v1 _, allocK i3_v1 _, by go_simp⟩ ?_
              rintro v11 ⟨Hv11, lt_v11, e0_v11, e1_v11, e2_v11, e3_v11, e4_v11, e5_v11, y1_v11, z6_v11, z7_v11, i0_v11, i1_v11, i2_v11, i3_v11, ia_v11⟩
              refine hK.out _ _ (by (try dsimp only); exact ⟨e0_v11, e1_v11, e2_v11, e3_v11, e4_v11, e5_v11⟩) (fun hHeld => ?_)
              clear hK K
              try simp only [Act.put, List.setIfInBounds_toArray, List.set_cons_zero, List.set_cons_succ]
              refine wpAnyH_ready (rs := [10]) (by kernel_rfl) (by simp) ?_
              refine AllReadyH.cons rfl (fun K hK => ?_) AllReadyH.nil
              go_simp
              go_at_call 65
              refine (numbers4R _ _ _ _ _ _ ⟨i0_v11, i1_v11, i2_v11, i3_v11⟩ ⟨oki.1, oki.2.1, oki.2.2.1, oki.2.2.2.1⟩).mono ?_
              rintro e v12 ⟨rfl, hb⟩
              replace hb : Below v11.heap.size v11 v12 := by first | exact hb | exact ((Below.refl _ _).drew).trans hb
              have e0_v12 := kept hb (lt_cell' e0_v11) e0_v11
              have e1_v12 := kept hb (lt_cell' e1_v11) e1_v11
              have e2_v12 := kept hb (lt_cell' e2_v11) e2_v11
              have e3_v12 := kept hb (lt_cell' e3_v11) e3_v11
              have e4_v12 := kept hb (lt_cell' e4_v11) e4_v11
              have e5_v12 := kept hb (lt_cell' e5_v11) e5_v11
              have y1_v12 := kept hb (lt_cell' y1_v11) y1_v11
              have z6_v12 := kept hb (lt_cell' z6_v11) z6_v11
              have z7_v12 := kept hb (lt_cell' z7_v11) z7_v11
              have i0_v12 := kept hb (lt_cell' i0_v11) i0_v11
              have i1_v12 := kept hb (lt_cell' i1_v11) i1_v11
              have i2_v12 := kept hb (lt_cell' i2_v11) i2_v11
              have i3_v12 := kept hb (lt_cell' i3_v11) i3_v11
              have ia_v12 := kept hb (lt_cell' ia_v11) ia_v11
              have Hv12 := Lib.hid (Hv11.out.trans (hb.mono Hv11.out.size))
              clear hb
              go_simp
              refine hK.out _ _ (by (try dsimp only); exact ⟨e0_v12, e1_v12, e2_v12, e3_v12, e4_v12, e5_v12⟩) (fun hHeld => ?_)
              clear hK K
              try simp only [Act.put, List.setIfInBounds_toArray, List.set_cons_zero, List.set_cons_succ]
              have h1 := S_app (bn) (Bytes.wide x2.op ++ (Bytes.wide x2.a ++ (Bytes.wide x2.b ++ (Bytes.wide x2.c))))
              have h2 := S_sum (a := bn) (b := Bytes.wide x2.op ++ (Bytes.wide x2.a ++ (Bytes.wide x2.b ++ (Bytes.wide x2.c)))) (by simp only [List.length_append, wide_len, wides_len]; omega)
              refine Drawn.tk 11 (some 114) rfl rfl (by assumption) ?_
              try simp only [Act.put, List.setIfInBounds_toArray, List.set_cons_zero, List.set_cons_succ]
              clear h1 h2
              refine wpAnyH_ready (rs := [14]) (by kernel_rfl) (by simp) ?_
              refine AllReadyH.cons rfl (fun K hK => ?_) AllReadyH.nil
              go_simp
              go_at_call 67
              refine (wideR _ _ oki.2.2.2.2).mono ?_
              rintro e v13 ⟨rfl, hb⟩
              replace hb : Below v12.heap.size v12 v13 := by first | exact hb | exact ((Below.refl _ _).drew).trans hb
              have e0_v13 := kept hb (lt_cell' e0_v12) e0_v12
              have e1_v13 := kept hb (lt_cell' e1_v12) e1_v12
              have e2_v13 := kept hb (lt_cell' e2_v12) e2_v12
              have e3_v13 := kept hb (lt_cell' e3_v12) e3_v12
              have e4_v13 := kept hb (lt_cell' e4_v12) e4_v12
              have e5_v13 := kept hb (lt_cell' e5_v12) e5_v12
              have y1_v13 := kept hb (lt_cell' y1_v12) y1_v12
              have z6_v13 := kept hb (lt_cell' z6_v12) z6_v12
              have z7_v13 := kept hb (lt_cell' z7_v12) z7_v12
              have i0_v13 := kept hb (lt_cell' i0_v12) i0_v12
              have i1_v13 := kept hb (lt_cell' i1_v12) i1_v12
              have i2_v13 := kept hb (lt_cell' i2_v12) i2_v12
              have i3_v13 := kept hb (lt_cell' i3_v12) i3_v12
              have ia_v13 := kept hb (lt_cell' ia_v12) ia_v12
              have Hv13 := Lib.hid (Hv12.out.trans (hb.mono Hv12.out.size))
              clear hb
              go_simp
              refine hK.out _ _ (by (try dsimp only); exact ⟨e0_v13, e1_v13, e2_v13, e3_v13, e4_v13, e5_v13⟩) (fun hHeld => ?_)
              clear hK K
              try simp only [Act.put, List.setIfInBounds_toArray, List.set_cons_zero, List.set_cons_succ]
              have h1 := S_app (bn ++ (Bytes.wide x2.op ++ (Bytes.wide x2.a ++ (Bytes.wide x2.b ++ (Bytes.wide x2.c))))) (Bytes.wide x2.n)
              have h2 := S_sum (a := bn ++ (Bytes.wide x2.op ++ (Bytes.wide x2.a ++ (Bytes.wide x2.b ++ (Bytes.wide x2.c))))) (b := Bytes.wide x2.n) (by simp only [List.length_append, wide_len, wides_len]; omega)
              refine Drawn.tk 15 (some 118) rfl rfl (by assumption) ?_
              try simp only [Act.put, List.setIfInBounds_toArray, List.set_cons_zero, List.set_cons_succ]
              clear h1 h2
              refine wpAnyH_ready (rs := [20]) (by kernel_rfl) (by simp) ?_
              refine AllReadyH.cons rfl (fun K hK => ?_) AllReadyH.nil
              go_simp
              go_at_call 65
              refine (numberR _ _ _ ia_v13 oka.out).mono ?_
              rintro e v14 ⟨rfl, hb⟩
              replace hb : Below v13.heap.size v13 v14 := by first | exact hb | exact ((Below.refl _ _).drew).trans hb
              have e0_v14 := kept hb (lt_cell' e0_v13) e0_v13
              have e1_v14 := kept hb (lt_cell' e1_v13) e1_v13
              have e2_v14 := kept hb (lt_cell' e2_v13) e2_v13
              have e3_v14 := kept hb (lt_cell' e3_v13) e3_v13
              have e4_v14 := kept hb (lt_cell' e4_v13) e4_v13
              have e5_v14 := kept hb (lt_cell' e5_v13) e5_v13
              have y1_v14 := kept hb (lt_cell' y1_v13) y1_v13
              have z6_v14 := kept hb (lt_cell' z6_v13) z6_v13
              have z7_v14 := kept hb (lt_cell' z7_v13) z7_v13
              have i0_v14 := kept hb (lt_cell' i0_v13) i0_v13
              have i1_v14 := kept hb (lt_cell' i1_v13) i1_v13
              have i2_v14 := kept hb (lt_cell' i2_v13) i2_v13
              have i3_v14 := kept hb (lt_cell' i3_v13) i3_v13
              have ia_v14 := kept hb (lt_cell' ia_v13) ia_v13
              have Hv14 := Lib.hid (Hv13.out.trans (hb.mono Hv13.out.size))
              clear hb
              go_simp
              refine hK.out _ _ (by (try dsimp only); exact ⟨e0_v14, e1_v14, e2_v14, e3_v14, e4_v14, e5_v14⟩) (fun hHeld => ?_)
              clear hK K
              try simp only [Act.put, List.setIfInBounds_toArray, List.set_cons_zero, List.set_cons_succ]
              have h1 := S_app (bn ++ (Bytes.wide x2.op ++ (Bytes.wide x2.a ++ (Bytes.wide x2.b ++ (Bytes.wide x2.c ++ (Bytes.wide x2.n)))))) (Bytes.wide (x2.args.length : Int))
              have h2 := S_sum (a := bn ++ (Bytes.wide x2.op ++ (Bytes.wide x2.a ++ (Bytes.wide x2.b ++ (Bytes.wide x2.c ++ (Bytes.wide x2.n)))))) (b := Bytes.wide (x2.args.length : Int)) (by simp only [List.length_append, wide_len, wides_len]; omega)
              refine Drawn.tk 21 (some 124) rfl rfl (by assumption) ?_
              try simp only [Act.put, List.setIfInBounds_toArray, List.set_cons_zero, List.set_cons_succ]
              clear h1 h2
              refine wpAnyH_ready (rs := [24]) (by kernel_rfl) (by simp) ?_
              refine AllReadyH.cons rfl (fun K hK => ?_) AllReadyH.nil
              go_simp
              go_at_call 65
              refine (numbersR _ x2.args _ (sa.out.mono mInt Hv14.out Hv14.out.size) (by omega)).mono ?_
              rintro e v15 ⟨rfl, hb⟩
              replace hb : Below v14.heap.size v14 v15 := by first | exact hb | exact ((Below.refl _ _).drew).trans hb
              have e0_v15 := kept hb (lt_cell' e0_v14) e0_v14
              have e1_v15 := kept hb (lt_cell' e1_v14) e1_v14
              have e2_v15 := kept hb (lt_cell' e2_v14) e2_v14
              have e3_v15 := kept hb (lt_cell' e3_v14) e3_v14
              have e4_v15 := kept hb (lt_cell' e4_v14) e4_v14
              have e5_v15 := kept hb (lt_cell' e5_v14) e5_v14
              have y1_v15 := kept hb (lt_cell' y1_v14) y1_v14
              have z6_v15 := kept hb (lt_cell' z6_v14) z6_v14
              have z7_v15 := kept hb (lt_cell' z7_v14) z7_v14
              have i0_v15 := kept hb (lt_cell' i0_v14) i0_v14
              have i1_v15 := kept hb (lt_cell' i1_v14) i1_v14
              have i2_v15 := kept hb (lt_cell' i2_v14) i2_v14
              have i3_v15 := kept hb (lt_cell' i3_v14) i3_v14
              have ia_v15 := kept hb (lt_cell' ia_v14) ia_v14
              have Hv15 := Lib.hid (Hv14.out.trans (hb.mono Hv14.out.size))
              clear hb
              go_simp
              refine hK.out _ _ (by (try dsimp only); exact ⟨e0_v15, e1_v15, e2_v15, e3_v15, e4_v15, e5_v15⟩) (fun hHeld => ?_)
              clear hK K
              try simp only [Act.put, List.setIfInBounds_toArray, List.set_cons_zero, List.set_cons_succ]
              have h1 := S_app (bn ++ (Bytes.wide x2.op ++ (Bytes.wide x2.a ++ (Bytes.wide x2.b ++ (Bytes.wide x2.c ++ (Bytes.wide x2.n ++ (Bytes.wide (x2.args.length : Int)))))))) (x2.args.flatMap Bytes.wide)
              have h2 := S_sum (a := bn ++ (Bytes.wide x2.op ++ (Bytes.wide x2.a ++ (Bytes.wide x2.b ++ (Bytes.wide x2.c ++ (Bytes.wide x2.n ++ (Bytes.wide (x2.args.length : Int)))))))) (b := x2.args.flatMap Bytes.wide) (by simp only [List.length_append, wide_len, wides_len]; omega)
              refine Drawn.tk 25 (some 128) rfl rfl (by assumption) ?_
              try simp only [Act.put, List.setIfInBounds_toArray, List.set_cons_zero, List.set_cons_succ]
              clear h1 h2
              refine Drawn.tk 26 (some 4) rfl rfl (by assumption) ?_
              try simp only [Act.put, List.setIfInBounds_toArray, List.set_cons_zero, List.set_cons_succ]
              refine wpAnyH_done (by kernel_rfl) ?_ _
              clear e0_v15 e1_v15 e2_v15 e3_v15 e4_v15 e5_v15 i0_v15 i1_v15 i2_v15 i3_v15 ia_v15
              go_wp2_with fail
              go_roundw
              case rel => exact ⟨j3 + 1, by omega, by go_num, by rw [hst3.out, List.flatMap_append, ← List.append_assoc bm, hbn'.out]; simp [Bytes.insB, lst], Hv15, lt_cell' z6_v15, y1_v15, z6_v15, z7_v15⟩
              case measure => simp [intOf]; omega
          · skip
            go_simp
            refine nameW (fun W' => Hid (Below w.heap.size w W') ∧ wi.heap.size < W'.heap.size ∧ W'.cell? ⟨ni, 0, none⟩ = some (.int .i64 x2.op) ∧ W'.cell? ⟨ni, 1, none⟩ = some (.int .i64 x2.a) ∧ W'.cell? ⟨ni, 2, none⟩ = some (.int .i64 x2.b) ∧ W'.cell? ⟨ni, 3, none⟩ = some (.int .i64 x2.c) ∧ W'.cell? ⟨ni, 4, none⟩ = some (.int .i64 x2.n) ∧ W'.cell? ⟨ni, 5, none⟩ = some (.slice aa x2.args.length acap) ∧ W'.cell? ⟨w.heap.size, 1, none⟩ = some (.slice (some ⟨b1, o1, none⟩) f.methods.length mcap) ∧ W'.cell? ⟨nm, 6, none⟩ = some (.slice (some ⟨b2, o2, none⟩) x.code.length dcap) ∧ W'.cell? ⟨nm, 7, none⟩ = some (.slice ha x.handlers.length hcap) ∧ W'.cell? ⟨wi.heap.size, 0, none⟩ = some (.int .i64 (x2.args.length : Int))) ⟨by first | exact Lib.hid (hbi.out.alloc hbi.out.size _) | exact Lib.hid (hbi.out.alloc hbi.out.size _).drew, by simp, allocK e0 _, allocK e1 _, allocK e2 _, allocK e3 _, allocK e4 _, allocK e5 _, allocK y1 _, allocK z6 _, allocK z7 _, by go_simp⟩ ?_
            rintro v16 ⟨Hv16, lt_v16, e0_v16, e1_v16, e2_v16, e3_v16, e4_v16, e5_v16, y1_v16, z6_v16, z7_v16, ia_v16⟩
            refine hK.out _ _ (by (try dsimp only); exact ⟨e0_v16, e1_v16, e2_v16, e3_v16, e4_v16, e5_v16⟩) (fun hHeld => ?_)
            clear hK K
            try simp only [Act.put, List.setIfInBounds_toArray, List.set_cons_zero, List.set_cons_succ]
            refine wpAnyH_ready (rs := [9]) (by kernel_rfl) (by simp) ?_
            refine AllReadyH.cons rfl (fun K hK => ?_) AllReadyH.nil
            go_simp
            refine nameW (fun W' => Hid (Below w.heap.size w W') ∧ v16.heap.size < W'.heap.size ∧ W'.cell? ⟨ni, 0, none⟩ = some (.int .i64 x2.op) ∧ W'.cell? ⟨ni, 1, none⟩ = some (.int .i64 x2.a) ∧ W'.cell? ⟨ni, 2, none⟩ = some (.int .i64 x2.b) ∧ W'.cell? ⟨ni, 3, none⟩ = some (.int .i64 x2.c) ∧ W'.cell? ⟨ni, 4, none⟩ = some (.int .i64 x2.n) ∧ W'.cell? ⟨ni, 5, none⟩ = some (.slice aa x2.args.length acap) ∧ W'.cell? ⟨w.heap.size, 1, none⟩ = some (.slice (some ⟨b1, o1, none⟩) f.methods.length mcap) ∧ W'.cell? ⟨nm, 6, none⟩ = some (.slice (some ⟨b2, o2, none⟩) x.code.length dcap) ∧ W'.cell? ⟨nm, 7, none⟩ = some (.slice ha x.handlers.length hcap) ∧ W'.cell? ⟨wi.heap.size, 0, none⟩ = some (.int .i64 (x2.args.length : Int)) ∧ W'.cell? ⟨v16.heap.size, 0, none⟩ = some (.int .i64 x2.op) ∧ W'.cell? ⟨v16.heap.size, 1, none⟩ = some (.int .i64 x2.a) ∧ W'.cell? ⟨v16.heap.size, 2, none⟩ = some (.int .i64 x2.b) ∧ W'.cell? ⟨v16.heap.size, 3, none⟩ = some (.int .i64 x2.c)) ⟨by first | exact Lib.hid (Hv16.out.alloc Hv16.out.size _) | exact Lib.hid (Hv16.out.alloc Hv16.out.size _).drew, by simp, allocK e0_v16 _, allocK e1_v16 _, allocK e2_v16 _, allocK e3_v16 _, allocK e4_v16 _, allocK e5_v16 _, allocK y1_v16 _, allocK z6_v16 _, allocK z7_v16 _, allocK ia_v16 _, by go_simp, by go_simp, by go_simp, by go_simp⟩ ?_
            rintro v17 ⟨Hv17, lt_v17, e0_v17, e1_v17, e2_v17, e3_v17, e4_v17, e5_v17, y1_v17, z6_v17, z7_v17, ia_v17, i0_v17, i1_v17, i2_v17, i3_v17⟩
            refine hK.out _ _ (by (try dsimp only); exact ⟨e0_v17, e1_v17, e2_v17, e3_v17, e4_v17, e5_v17⟩) (fun hHeld => ?_)
            clear hK K
            try simp only [Act.put, List.setIfInBounds_toArray, List.set_cons_zero, List.set_cons_succ]
            refine wpAnyH_ready (rs := [10]) (by kernel_rfl) (by simp) ?_
            refine AllReadyH.cons rfl (fun K hK => ?_) AllReadyH.nil
            go_simp
            go_at_call 65
            refine (numbers4R _ _ _ _ _ _ ⟨i0_v17, i1_v17, i2_v17, i3_v17⟩ ⟨oki.1, oki.2.1, oki.2.2.1, oki.2.2.2.1⟩).mono ?_
            rintro e v18 ⟨rfl, hb⟩
            replace hb : Below v17.heap.size v17 v18 := by first | exact hb | exact ((Below.refl _ _).drew).trans hb
            have e0_v18 := kept hb (lt_cell' e0_v17) e0_v17
            have e1_v18 := kept hb (lt_cell' e1_v17) e1_v17
            have e2_v18 := kept hb (lt_cell' e2_v17) e2_v17
            have e3_v18 := kept hb (lt_cell' e3_v17) e3_v17
            have e4_v18 := kept hb (lt_cell' e4_v17) e4_v17
            have e5_v18 := kept hb (lt_cell' e5_v17) e5_v17
            have y1_v18 := kept hb (lt_cell' y1_v17) y1_v17
            have z6_v18 := kept hb (lt_cell' z6_v17) z6_v17
            have z7_v18 := kept hb (lt_cell' z7_v17) z7_v17
            have ia_v18 := kept hb (lt_cell' ia_v17) ia_v17
            have i0_v18 := kept hb (lt_cell' i0_v17) i0_v17
            have i1_v18 := kept hb (lt_cell' i1_v17) i1_v17
            have i2_v18 := kept hb (lt_cell' i2_v17) i2_v17
            have i3_v18 := kept hb (lt_cell' i3_v17) i3_v17
            have Hv18 := Lib.hid (Hv17.out.trans (hb.mono Hv17.out.size))
            clear hb
            go_simp
            refine hK.out _ _ (by (try dsimp only); exact ⟨e0_v18, e1_v18, e2_v18, e3_v18, e4_v18, e5_v18⟩) (fun hHeld => ?_)
            clear hK K
            try simp only [Act.put, List.setIfInBounds_toArray, List.set_cons_zero, List.set_cons_succ]
            have h1 := S_app (bn) (Bytes.wide x2.op ++ (Bytes.wide x2.a ++ (Bytes.wide x2.b ++ (Bytes.wide x2.c))))
            have h2 := S_sum (a := bn) (b := Bytes.wide x2.op ++ (Bytes.wide x2.a ++ (Bytes.wide x2.b ++ (Bytes.wide x2.c)))) (by simp only [List.length_append, wide_len, wides_len]; omega)
            refine Drawn.tk 11 (some 114) rfl rfl (by assumption) ?_
            try simp only [Act.put, List.setIfInBounds_toArray, List.set_cons_zero, List.set_cons_succ]
            clear h1 h2
            refine wpAnyH_ready (rs := [14]) (by kernel_rfl) (by simp) ?_
            refine AllReadyH.cons rfl (fun K hK => ?_) AllReadyH.nil
            go_simp
            go_at_call 67
            refine (wideR _ _ oki.2.2.2.2).mono ?_
            rintro e v19 ⟨rfl, hb⟩
            replace hb : Below v18.heap.size v18 v19 := by first | exact hb | exact ((Below.refl _ _).drew).trans hb
            have e0_v19 := kept hb (lt_cell' e0_v18) e0_v18
            have e1_v19 := kept hb (lt_cell' e1_v18) e1_v18
            have e2_v19 := kept hb (lt_cell' e2_v18) e2_v18
            have e3_v19 := kept hb (lt_cell' e3_v18) e3_v18
            have e4_v19 := kept hb (lt_cell' e4_v18) e4_v18
            have e5_v19 := kept hb (lt_cell' e5_v18) e5_v18
            have y1_v19 := kept hb (lt_cell' y1_v18) y1_v18
            have z6_v19 := kept hb (lt_cell' z6_v18) z6_v18
            have z7_v19 := kept hb (lt_cell' z7_v18) z7_v18
            have ia_v19 := kept hb (lt_cell' ia_v18) ia_v18
            have i0_v19 := kept hb (lt_cell' i0_v18) i0_v18
            have i1_v19 := kept hb (lt_cell' i1_v18) i1_v18
            have i2_v19 := kept hb (lt_cell' i2_v18) i2_v18
            have i3_v19 := kept hb (lt_cell' i3_v18) i3_v18
            have Hv19 := Lib.hid (Hv18.out.trans (hb.mono Hv18.out.size))
            clear hb
            go_simp
            refine hK.out _ _ (by (try dsimp only); exact ⟨e0_v19, e1_v19, e2_v19, e3_v19, e4_v19, e5_v19⟩) (fun hHeld => ?_)
            clear hK K
            try simp only [Act.put, List.setIfInBounds_toArray, List.set_cons_zero, List.set_cons_succ]
            have h1 := S_app (bn ++ (Bytes.wide x2.op ++ (Bytes.wide x2.a ++ (Bytes.wide x2.b ++ (Bytes.wide x2.c))))) (Bytes.wide x2.n)
            have h2 := S_sum (a := bn ++ (Bytes.wide x2.op ++ (Bytes.wide x2.a ++ (Bytes.wide x2.b ++ (Bytes.wide x2.c))))) (b := Bytes.wide x2.n) (by simp only [List.length_append, wide_len, wides_len]; omega)
            refine Drawn.tk 15 (some 118) rfl rfl (by assumption) ?_
            try simp only [Act.put, List.setIfInBounds_toArray, List.set_cons_zero, List.set_cons_succ]
            clear h1 h2
            refine wpAnyH_ready (rs := [20]) (by kernel_rfl) (by simp) ?_
            refine AllReadyH.cons rfl (fun K hK => ?_) AllReadyH.nil
            go_simp
            go_at_call 65
            refine (numberR _ _ _ ia_v19 oka.out).mono ?_
            rintro e v20 ⟨rfl, hb⟩
            replace hb : Below v19.heap.size v19 v20 := by first | exact hb | exact ((Below.refl _ _).drew).trans hb
            have e0_v20 := kept hb (lt_cell' e0_v19) e0_v19
            have e1_v20 := kept hb (lt_cell' e1_v19) e1_v19
            have e2_v20 := kept hb (lt_cell' e2_v19) e2_v19
            have e3_v20 := kept hb (lt_cell' e3_v19) e3_v19
            have e4_v20 := kept hb (lt_cell' e4_v19) e4_v19
            have e5_v20 := kept hb (lt_cell' e5_v19) e5_v19
            have y1_v20 := kept hb (lt_cell' y1_v19) y1_v19
            have z6_v20 := kept hb (lt_cell' z6_v19) z6_v19
            have z7_v20 := kept hb (lt_cell' z7_v19) z7_v19
            have ia_v20 := kept hb (lt_cell' ia_v19) ia_v19
            have i0_v20 := kept hb (lt_cell' i0_v19) i0_v19
            have i1_v20 := kept hb (lt_cell' i1_v19) i1_v19
            have i2_v20 := kept hb (lt_cell' i2_v19) i2_v19
            have i3_v20 := kept hb (lt_cell' i3_v19) i3_v19
            have Hv20 := Lib.hid (Hv19.out.trans (hb.mono Hv19.out.size))
            clear hb
            go_simp
            refine hK.out _ _ (by (try dsimp only); exact ⟨e0_v20, e1_v20, e2_v20, e3_v20, e4_v20, e5_v20⟩) (fun hHeld => ?_)
            clear hK K
            try simp only [Act.put, List.setIfInBounds_toArray, List.set_cons_zero, List.set_cons_succ]
            have h1 := S_app (bn ++ (Bytes.wide x2.op ++ (Bytes.wide x2.a ++ (Bytes.wide x2.b ++ (Bytes.wide x2.c ++ (Bytes.wide x2.n)))))) (Bytes.wide (x2.args.length : Int))
            have h2 := S_sum (a := bn ++ (Bytes.wide x2.op ++ (Bytes.wide x2.a ++ (Bytes.wide x2.b ++ (Bytes.wide x2.c ++ (Bytes.wide x2.n)))))) (b := Bytes.wide (x2.args.length : Int)) (by simp only [List.length_append, wide_len, wides_len]; omega)
            refine Drawn.tk 21 (some 124) rfl rfl (by assumption) ?_
            try simp only [Act.put, List.setIfInBounds_toArray, List.set_cons_zero, List.set_cons_succ]
            clear h1 h2
            refine wpAnyH_ready (rs := [24]) (by kernel_rfl) (by simp) ?_
            refine AllReadyH.cons rfl (fun K hK => ?_) AllReadyH.nil
            go_simp
            go_at_call 65
            refine (numbersR _ x2.args _ (sa.out.mono mInt Hv20.out Hv20.out.size) (by omega)).mono ?_
            rintro e v21 ⟨rfl, hb⟩
            replace hb : Below v20.heap.size v20 v21 := by first | exact hb | exact ((Below.refl _ _).drew).trans hb
            have e0_v21 := kept hb (lt_cell' e0_v20) e0_v20
            have e1_v21 := kept hb (lt_cell' e1_v20) e1_v20
            have e2_v21 := kept hb (lt_cell' e2_v20) e2_v20
            have e3_v21 := kept hb (lt_cell' e3_v20) e3_v20
            have e4_v21 := kept hb (lt_cell' e4_v20) e4_v20
            have e5_v21 := kept hb (lt_cell' e5_v20) e5_v20
            have y1_v21 := kept hb (lt_cell' y1_v20) y1_v20
            have z6_v21 := kept hb (lt_cell' z6_v20) z6_v20
            have z7_v21 := kept hb (lt_cell' z7_v20) z7_v20
            have ia_v21 := kept hb (lt_cell' ia_v20) ia_v20
            have i0_v21 := kept hb (lt_cell' i0_v20) i0_v20
            have i1_v21 := kept hb (lt_cell' i1_v20) i1_v20
            have i2_v21 := kept hb (lt_cell' i2_v20) i2_v20
            have i3_v21 := kept hb (lt_cell' i3_v20) i3_v20
            have Hv21 := Lib.hid (Hv20.out.trans (hb.mono Hv20.out.size))
            clear hb
            go_simp
            refine hK.out _ _ (by (try dsimp only); exact ⟨e0_v21, e1_v21, e2_v21, e3_v21, e4_v21, e5_v21⟩) (fun hHeld => ?_)
            clear hK K
            try simp only [Act.put, List.setIfInBounds_toArray, List.set_cons_zero, List.set_cons_succ]
            have h1 := S_app (bn ++ (Bytes.wide x2.op ++ (Bytes.wide x2.a ++ (Bytes.wide x2.b ++ (Bytes.wide x2.c ++ (Bytes.wide x2.n ++ (Bytes.wide (x2.args.length : Int)))))))) (x2.args.flatMap Bytes.wide)
            have h2 := S_sum (a := bn ++ (Bytes.wide x2.op ++ (Bytes.wide x2.a ++ (Bytes.wide x2.b ++ (Bytes.wide x2.c ++ (Bytes.wide x2.n ++ (Bytes.wide (x2.args.length : Int)))))))) (b := x2.args.flatMap Bytes.wide) (by simp only [List.length_append, wide_len, wides_len]; omega)
            refine Drawn.tk 25 (some 128) rfl rfl (by assumption) ?_
            try simp only [Act.put, List.setIfInBounds_toArray, List.set_cons_zero, List.set_cons_succ]
            clear h1 h2
            refine Drawn.tk 26 (some 4) rfl rfl (by assumption) ?_
            try simp only [Act.put, List.setIfInBounds_toArray, List.set_cons_zero, List.set_cons_succ]
            refine wpAnyH_done (by kernel_rfl) ?_ _
            clear e0_v21 e1_v21 e2_v21 e3_v21 e4_v21 e5_v21 ia_v21 i0_v21 i1_v21 i2_v21 i3_v21
            go_wp2_with fail
            go_roundw
            case rel => exact ⟨j3 + 1, by omega, by go_num, by rw [hst3.out, List.flatMap_append, ← List.append_assoc bm, hbn'.out]; simp [Bytes.insB, lst], Hv21, lt_cell' z6_v21, y1_v21, z6_v21, z7_v21⟩
            case measure => simp [intOf]; omega
        · have hst3 := Lib.hid (List.take_of_length_le (l := x.code) (i := j3) (by omega))
          rw [hst3.out]
          obtain ⟨bp, hbp⟩ : ∃ bp, Hid (bm ++ x.code.flatMap insB = bp) := ⟨_, rfl⟩
          have hbpl : bp.length ≤ 8000100 := by rw [← hbp.out, List.length_append]; omega
          rw [hbp.out]
          have hge3 : ¬ (j3 : Int) < x.code.length := by omega
          have hl7 := lt_cell' q7
          go_wp2_with fail
          refine (numberR (x.handlers.length : Int) _ _ (by go_simp) okh.out).mono ?_
          rintro e w5 ⟨rfl, hb5⟩
          have hbw : Below wr.heap.size wr w5 := Below.trans (by repeat' (first | with_reducible exact Below.refl _ _ | with_reducible assumption | exact Nat.le_refl _ | with_reducible refine Go.Proofs.Ytncmhenfgbcihaa.Rd.below_drewN ?_ _ | with_reducible refine Below.alloc ?_ ?_ _ | with_reducible refine Below.setCell ?_ ?_ _ | with_reducible refine Below.drew ?_ | omega | (simp; omega) | (simp; done))) (hb5.mono (by simp <;> omega))
          have HB5 := Lib.hid (hbi0.out.trans (hbw.mono hbi0.out.size))
          have z1 := kept hbw (lt_cell' y1) y1
          have z7 := kept hbw (lt_cell' q7) q7
          have h1 := S_app bp (Bytes.wide x.handlers.length)
          have h2 := S_sum (a := bp) (b := Bytes.wide x.handlers.length) (by rw [wide_len]; omega)
          clear hb5 hbw hge3 y1 q6 q7
          go_wp2_with fail
          clear h1 h2
          obtain ⟨bq, hbq⟩ : ∃ bq, Hid (bp ++ Bytes.wide x.handlers.length = bq) := ⟨_, rfl⟩
          have hbql : bq.length ≤ 8000108 := by rw [← hbq.out, List.length_append, wide_len]; omega
          rw [hbq.out]
          go_loopw [4, 10] (fun s i wr => ∃ j : Nat, j ≤ x.handlers.length ∧ i = .int .i64 j ∧ s = .string (S (bq ++ (x.handlers.take j).flatMap hdB)) ∧ Hid (Below w.heap.size w wr) ∧ nm < wr.heap.size ∧ wr.cell? ⟨w.heap.size, 1, none⟩ = some (.slice (some ⟨b1, o1, none⟩) f.methods.length mcap) ∧ wr.cell? ⟨nm, 7, none⟩ = some (.slice ha x.handlers.length hcap)) (fun _ i _ => x.handlers.length - (intOf i).toNat)
          case atStart => exact ⟨0, by omega, rfl, by simp, HB5, lt_cell' z7, z1, z7⟩
          case round =>
          obtain ⟨j4, hj4, rfl, rfl, hbh0, hnl4, y1, q7⟩ := hrel
          clear z1 z7
          by_cases hlt4 : j4 < x.handlers.length
          · obtain ⟨a, cap', ha', _, _, hel⟩ := sh.out
            simp only [Value.slice.injEq] at ha'
            obtain ⟨rfl, _, rfl⟩ := ha'
            obtain ⟨b3, o3, rfl, hb3', he⟩ := hel j4 hlt4
            have hst4 := Lib.hid (List.take_succ_eq_append_getElem hlt4)
            obtain ⟨x4, hx4⟩ := at_of hlt4
            rw [hx4.out] at he
            rw [hx4.out] at hst4
            have hle : ((x.handlers.take (j4 + 1)).flatMap hdB).length ≤ (x.handlers.flatMap hdB).length := flat_le hdB x.handlers (j4 + 1)
            rw [hst4.out, List.flatMap_append, List.length_append, List.flatMap_cons, List.flatMap_nil, List.append_nil] at hle
            obtain ⟨br, hbr⟩ : ∃ br, Hid (bq ++ (x.handlers.take j4).flatMap hdB = br) := ⟨_, rfl⟩
            have hbrl : br.length ≤ 10000108 := by rw [← hbr.out, List.length_append]; omega
            rw [hbr.out]
            obtain ⟨g0, g1, g2, g3, ok0, ok1, ok2, ok3⟩ := he
            have k0 := kept hbh0.out hb3' g0
            have k1 := kept hbh0.out hb3' g1
            have k2 := kept hbh0.out hb3' g2
            have k3 := kept hbh0.out hb3' g3
            have hI4 : (j4 : Int) < x.handlers.length := by omega
            have hl7 := lt_cell' q7
            clear hel g0 g1 g2 g3 hle
            go_wp2_with fail
            refine (numbers4R x4.lo x4.hi x4.go x4.cls _ _ ⟨by go_simp, by go_simp, by go_simp, by go_simp⟩ ⟨ok0, ok1, ok2, ok3⟩).mono ?_
            rintro e w6 ⟨rfl, hb6⟩
            have hbw : Below wr.heap.size wr w6 := Below.trans (by repeat' (first | with_reducible exact Below.refl _ _ | with_reducible assumption | exact Nat.le_refl _ | with_reducible refine Go.Proofs.Ytncmhenfgbcihaa.Rd.below_drewN ?_ _ | with_reducible refine Below.alloc ?_ ?_ _ | with_reducible refine Below.setCell ?_ ?_ _ | with_reducible refine Below.drew ?_ | omega | (simp; omega) | (simp; done))) (hb6.mono (by simp <;> omega))
            have HB6 := Lib.hid (hbh0.out.trans (hbw.mono hbh0.out.size))
            have z1 := kept hbw (lt_cell' y1) y1
            have z7 := kept hbw (lt_cell' q7) q7
            have h1 := S_app br (Bytes.wide x4.lo ++ (Bytes.wide x4.hi ++ (Bytes.wide x4.go ++ Bytes.wide x4.cls)))
            have h2 := S_sum (a := br) (b := Bytes.wide x4.lo ++ (Bytes.wide x4.hi ++ (Bytes.wide x4.go ++ Bytes.wide x4.cls))) (by simp only [List.length_append, wide_len]; omega)
            clear hb6 hbw y1 q7 k0 k1 k2 k3
            go_wp2_with fail
            clear h1 h2
            go_roundw
            case rel => exact ⟨j4 + 1, by omega, by go_num, by rw [hst4.out, List.flatMap_append, ← List.append_assoc bq, hbr.out]; simp [hdB], HB6, lt_cell' z7, z1, z7⟩
            case measure => simp [intOf]; omega
          · have hst4 := Lib.hid (List.take_of_length_le (l := x.handlers) (i := j4) (by omega))
            rw [hst4.out]
            have hge4 : ¬ (j4 : Int) < x.handlers.length := by omega
            go_wp2_with fail
            go_roundw
            case rel => exact ⟨j2 + 1, by omega, by go_num, by rw [hst2.out, List.flatMap_append, ← List.append_assoc bk2, hbk'.out, ← hbq.out, ← hbp.out, ← hbm.out]; simp [meB, tyB, lst], hbh0, y1⟩
            case measure => simp [intOf]; omega
      · have hst := Lib.hid (List.take_of_length_le (l := f.methods) (i := j2) (by omega))
        rw [hst.out]
        have hge : ¬ (j2 : Int) < f.methods.length := by omega
        go_wp2_with fail
        go_ret
        exact ⟨ret_str (by rw [← hbk2.out, ← hbk.out]; simp [fiB, lst]), hbn0.out⟩

end Wire
end Go.Proofs.Ytncmhenfgbcihaa
