/- Writing bytes: what is written of each of package api's types; lists of them. -/
import Derived.Test.YtncmhenfgbcihabWrL
namespace Go.Proofs.Ytncmhenfgbcihab
open Go.RowKit
set_option linter.unusedSimpArgs false
set_option linter.unusedVariables false
namespace Wire
open Num Rd D Bytes

theorem ints3 {w : World} {nb : Nat} {a b c : Int} (h : w.cell? ⟨nb, 0, none⟩ = some (.int .i64 a) ∧ w.cell? ⟨nb, 1, none⟩ = some (.int .i64 b) ∧ w.cell? ⟨nb, 2, none⟩ = some (.int .i64 c)) : ∀ i (h : i < [a, b, c].length), w.cell? ⟨nb, i, none⟩ = some (.int .i64 [a, b, c][i]) := fun i hi => by
  match i, hi with
  | 0, _ => exact h.1
  | 1, _ => exact h.2.1
  | 2, _ => exact h.2.2
theorem ints4 {w : World} {nb : Nat} {a b c d : Int} (h : w.cell? ⟨nb, 0, none⟩ = some (.int .i64 a) ∧ w.cell? ⟨nb, 1, none⟩ = some (.int .i64 b) ∧ w.cell? ⟨nb, 2, none⟩ = some (.int .i64 c) ∧ w.cell? ⟨nb, 3, none⟩ = some (.int .i64 d)) : ∀ i (h : i < [a, b, c, d].length), w.cell? ⟨nb, i, none⟩ = some (.int .i64 [a, b, c, d][i]) := fun i hi => by
  match i, hi with
  | 0, _ => exact h.1
  | 1, _ => exact h.2.1
  | 2, _ => exact h.2.2.1
  | 3, _ => exact h.2.2.2
theorem ok3 {a b c : Int} (h1 : Ok a) (h2 : Ok b) (h3 : Ok c) : ∀ i (h : i < [a, b, c].length), Ok [a, b, c][i] := fun i hi => by
  match i, hi with
  | 0, _ => exact h1
  | 1, _ => exact h2
  | 2, _ => exact h3
theorem ok4 {a b c d : Int} (h1 : Ok a) (h2 : Ok b) (h3 : Ok c) (h4 : Ok d) : ∀ i (h : i < [a, b, c, d].length), Ok [a, b, c, d][i] := fun i hi => by
  match i, hi with
  | 0, _ => exact h1
  | 1, _ => exact h2
  | 2, _ => exact h3
  | 3, _ => exact h4

set_option maxHeartbeats 1000000 in
theorem putInt (b g q : Nat) (x : Int) (bs : List UInt8) (w : World) (h : Wr w b g bs) (hok : Ok x) (hq : w.cell? ⟨q, 0, none⟩ = some (.pointer (some ⟨b, 0, none⟩))) (hqq : q ≠ b ∧ q ≠ g) (hlen : bs.length + 8 ≤ 140737488355328) :
    Calls Try.prog 78 #[.int .i64 x, .pointer (some ⟨q, 0, none⟩)] w fun e w' => e = .returned (.tuple #[]) ∧ Wd w b g w' (bs ++ Bytes.wide x) := by
  have hlt := h.lt
  have hltg := h.ltg
  have hlq := lt_cell' hq
  go_enter Try.func78, Try.ntmps78
  go_wp2_with fail
  refine (num b g w.heap.size [x] bs _ (h.alloc _) (by simp) (ok1 hok) (by simp; omega) ⟨by omega, by omega⟩ (ints1 (by go_simp))).mono ?_
  rintro e w1 ⟨rfl, hD⟩
  have hD2 := Lib.hid (Wd.step ((Wk.refl [b, g] w).alloc _) (.inl rfl) hD)
  clear hD
  go_wp2
  go_end0
  exact ⟨rfl, by simpa [] using hD2.out⟩

set_option maxRecDepth 100000 in
set_option maxHeartbeats 2000000 in
theorem listInt (b g q : Nat) (v : Value) (l : List Int) (bs : List UInt8) (w : World) (B : Nat) (h : Wr w b g bs) (hs : Sl 1 EInt w B v l) (hBb : B ≤ b) (hBg : B ≤ g) (hq : w.cell? ⟨q, 0, none⟩ = some (.pointer (some ⟨b, 0, none⟩))) (hqb : q ≠ b ∧ q ≠ g) (hlen : (bs ++ lst Bytes.wide l).length ≤ 140737488355328) :
    Calls Try.prog 77 #[.pointer (some ⟨b, 0, none⟩), v, .func (Fn.func 78) #[] #[.pointer (some ⟨q, 0, none⟩)]] w fun e w' => e = .returned (.tuple #[]) ∧ Wd w b g w' (bs ++ lst Bytes.wide l) := by
  obtain ⟨a, cap, rfl, hlc, hcc, hel⟩ := hs
  have hlt := h.lt
  have hltg := h.ltg
  have hlen2 : bs.length + 8 + (l.flatMap Bytes.wide).length ≤ 140737488355328 := by rw [lst, List.length_append, List.length_append, wide_len] at hlen; omega
  have hLen := Lib.hid hlen
  clear hlen
  go_enter Try.func77, Try.ntmps77
  go_wp2_with fail
  refine (num b g w.heap.size [(l.length : Int)] bs _ (h.alloc _) (by simp) (ok1 (by unfold Ok; omega)) (by simp; omega) ⟨by omega, by omega⟩ (ints1 (by go_simp))).mono ?_
  rintro e w1 ⟨rfl, hD⟩
  have hD1 := Lib.hid (Wd.step ((Wk.refl [b, g] w).alloc _) (.inl rfl) hD)
  clear hD
  go_wp2_with fail
  go_loopw [15] (fun i wr => ∃ k : Nat, k ≤ l.length ∧ i = .int .i64 k ∧ Hid (Wd w b g wr (bs ++ (Bytes.wide l.length ++ (l.take k).flatMap Bytes.wide)))) (fun i _ => l.length - (intOf i).toNat)
  case atStart => exact ⟨0, by omega, rfl, by show Wd _ _ _ _ _; simpa using hD1.out⟩
  case round =>
    obtain ⟨k, hk, rfl, hd⟩ := hrel
    by_cases hlt2 : k < l.length
    · have hst := Lib.hid (List.take_succ_eq_append_getElem hlt2)
      obtain ⟨b1, o1, rfl, hb1, he⟩ := hel k hlt2
      obtain ⟨x, hx⟩ := HierW.at_of hlt2
      rw [hx.out] at he
      rw [hx.out] at hst
      have hle : ((l.take (k + 1)).flatMap Bytes.wide).length ≤ (l.flatMap Bytes.wide).length := flat_le Bytes.wide l (k + 1)
      rw [hst.out, List.flatMap_append, List.length_append, List.flatMap_cons, List.flatMap_nil, List.append_nil] at hle
      obtain ⟨bk, hbk⟩ : ∃ bk, Hid (bs ++ (Bytes.wide l.length ++ (l.take k).flatMap Bytes.wide) = bk) := ⟨_, rfl⟩
      have hbl : bk.length = bs.length + 8 + ((l.take k).flatMap Bytes.wide).length := by rw [← hbk.out]; simp [wide_len]; omega
      rw [hbk.out] at hd
      have h8 : Hid ((bk ++ Bytes.wide x).length ≤ 140737488355328) := by show _ ≤ _; rw [List.length_append]; omega
      clear hle hbl hlen2
      obtain ⟨g1, hW, hg1, hkp⟩ := hd.out
      have hBx : b1 ∉ [b, g] := by simp; omega
      have hks := hkp.size
      have hB1 : B ≤ g1 := by omega
      have hbel : Below B w _ := hkp.below (by omega) (by simp; omega)
      have hgg : Hid (g1 = g ∨ w.heap.size ≤ g1) := hg1
      obtain ⟨y0, ok0⟩ := he
      rw [Nat.mul_one] at y0
      have c0 := hkp.cell y0 hBx
      skip
      have H1 := Lib.hid hW
      have H3 := Lib.hid hkp
      have hlb := hW.lt
      have Q1 := hkp.cell hq (by simp; omega)
      have hlq2 := lt_cell' Q1
      have hqq : q ≠ b ∧ q ≠ g1 := ⟨hqb.1, by have := lt_cell' hq; omega⟩
      clear hq
      clear hel hW hg1 hkp hbel y0
      go_wp2_with (go_at_call 78; refine (putInt b g1 q x bk _ H1.out ok0 Q1 hqq (by have := h8.out; simp [wide_len] at this; omega)).mono ?_; rintro e w2 ⟨rfl, hD⟩; have hD2 := Lib.hid (Wd.step H3.out hgg.out (Wd.step (Wk.refl _ _) (.inl rfl) hD)); clear hD)
      go_roundw
      case rel =>
        refine ⟨k + 1, by omega, by go_num, ?_⟩
        rw [hst.out, List.flatMap_append, ← List.append_assoc (Bytes.wide _), ← List.append_assoc, hbk.out]
        simpa using hD2
      case measure => simp [intOf]; omega
    · have hst := Lib.hid (List.take_of_length_le (l := l) (i := k) (by omega))
      rw [hst.out] at hd
      clear hel
      go_wp2
      go_end0
      exact ⟨rfl, hd.out⟩


set_option maxHeartbeats 1000000 in
theorem putHd (b g q : Nat) (x : Hd) (bs : List UInt8) (w : World) (h : Wr w b g bs) (hok : HdOk x) (hq : w.cell? ⟨q, 0, none⟩ = some (.pointer (some ⟨b, 0, none⟩))) (hqq : q ≠ b ∧ q ≠ g) (hlen : bs.length + 32 ≤ 140737488355328) :
    Calls Try.prog 80 #[.agg #[.int .i64 x.lo, .int .i64 x.hi, .int .i64 x.go, .int .i64 x.cls], .pointer (some ⟨q, 0, none⟩)] w fun e w' => e = .returned (.tuple #[]) ∧ Wd w b g w' (bs ++ hdB x) := by
  have hlt := h.lt
  have hltg := h.ltg
  have hlq := lt_cell' hq
  go_enter Try.func80, Try.ntmps80
  go_wp2_with fail
  refine (num b g (w.heap.size + 1) [x.lo, x.hi, x.go, x.cls] bs _ ((h.alloc _).alloc _) (by simp) (ok4 hok.1 hok.2.1 hok.2.2.1 hok.2.2.2) (by simp; omega) ⟨by omega, by omega⟩ (ints4 ⟨by go_simp, by go_simp, by go_simp, by go_simp⟩)).mono ?_
  rintro e w1 ⟨rfl, hD⟩
  have hD2 := Lib.hid (Wd.step (((Wk.refl [b, g] w).alloc _).alloc _) (.inl rfl) hD)
  clear hD
  go_wp2
  go_end0
  exact ⟨rfl, by simpa [hdB] using hD2.out⟩

set_option maxRecDepth 100000 in
set_option maxHeartbeats 2000000 in
theorem listHd (b g q : Nat) (v : Value) (l : List Hd) (bs : List UInt8) (w : World) (B : Nat) (h : Wr w b g bs) (hs : Sl 4 EHd w B v l) (hBb : B ≤ b) (hBg : B ≤ g) (hq : w.cell? ⟨q, 0, none⟩ = some (.pointer (some ⟨b, 0, none⟩))) (hqb : q ≠ b ∧ q ≠ g) (hlen : (bs ++ lst hdB l).length ≤ 140737488355328) :
    Calls Try.prog 79 #[.pointer (some ⟨b, 0, none⟩), v, .func (Fn.func 80) #[] #[.pointer (some ⟨q, 0, none⟩)]] w fun e w' => e = .returned (.tuple #[]) ∧ Wd w b g w' (bs ++ lst hdB l) := by
  obtain ⟨a, cap, rfl, hlc, hcc, hel⟩ := hs
  have hlt := h.lt
  have hltg := h.ltg
  have hlen2 : bs.length + 8 + (l.flatMap hdB).length ≤ 140737488355328 := by rw [lst, List.length_append, List.length_append, wide_len] at hlen; omega
  have hLen := Lib.hid hlen
  clear hlen
  go_enter Try.func79, Try.ntmps79
  go_wp2_with fail
  refine (num b g w.heap.size [(l.length : Int)] bs _ (h.alloc _) (by simp) (ok1 (by unfold Ok; omega)) (by simp; omega) ⟨by omega, by omega⟩ (ints1 (by go_simp))).mono ?_
  rintro e w1 ⟨rfl, hD⟩
  have hD1 := Lib.hid (Wd.step ((Wk.refl [b, g] w).alloc _) (.inl rfl) hD)
  clear hD
  go_wp2_with fail
  go_loopw [15] (fun i wr => ∃ k : Nat, k ≤ l.length ∧ i = .int .i64 k ∧ Hid (Wd w b g wr (bs ++ (Bytes.wide l.length ++ (l.take k).flatMap hdB)))) (fun i _ => l.length - (intOf i).toNat)
  case atStart => exact ⟨0, by omega, rfl, by show Wd _ _ _ _ _; simpa using hD1.out⟩
  case round =>
    obtain ⟨k, hk, rfl, hd⟩ := hrel
    by_cases hlt2 : k < l.length
    · have hst := Lib.hid (List.take_succ_eq_append_getElem hlt2)
      obtain ⟨b1, o1, rfl, hb1, he⟩ := hel k hlt2
      obtain ⟨x, hx⟩ := HierW.at_of hlt2
      rw [hx.out] at he
      rw [hx.out] at hst
      have hle : ((l.take (k + 1)).flatMap hdB).length ≤ (l.flatMap hdB).length := flat_le hdB l (k + 1)
      rw [hst.out, List.flatMap_append, List.length_append, List.flatMap_cons, List.flatMap_nil, List.append_nil] at hle
      obtain ⟨bk, hbk⟩ : ∃ bk, Hid (bs ++ (Bytes.wide l.length ++ (l.take k).flatMap hdB) = bk) := ⟨_, rfl⟩
      have hbl : bk.length = bs.length + 8 + ((l.take k).flatMap hdB).length := by rw [← hbk.out]; simp [wide_len]; omega
      rw [hbk.out] at hd
      have h8 : Hid ((bk ++ hdB x).length ≤ 140737488355328) := by show _ ≤ _; rw [List.length_append]; omega
      clear hle hbl hlen2
      obtain ⟨g1, hW, hg1, hkp⟩ := hd.out
      have hBx : b1 ∉ [b, g] := by simp; omega
      have hks := hkp.size
      have hB1 : B ≤ g1 := by omega
      have hbel : Below B w _ := hkp.below (by omega) (by simp; omega)
      have hgg : Hid (g1 = g ∨ w.heap.size ≤ g1) := hg1
      obtain ⟨y0, y1, y2, y3, ok0, ok1, ok2, ok3⟩ := he
      have c0 := hkp.cell y0 hBx
      have c1 := hkp.cell y1 hBx
      have c2 := hkp.cell y2 hBx
      have c3 := hkp.cell y3 hBx
      skip
      have H1 := Lib.hid hW
      have H3 := Lib.hid hkp
      have hlb := hW.lt
      have Q1 := hkp.cell hq (by simp; omega)
      have hlq2 := lt_cell' Q1
      have hqq : q ≠ b ∧ q ≠ g1 := ⟨hqb.1, by have := lt_cell' hq; omega⟩
      clear hq
      clear hel hW hg1 hkp hbel y0 y1 y2 y3
      go_wp2_with (go_at_call 80; refine (putHd b g1 q x bk _ (H1.out.alloc _) ⟨ok0, ok1, ok2, ok3⟩ (by go_simp) hqq (by have := h8.out; simp [hdB, wide_len] at this; omega)).mono ?_; rintro e w2 ⟨rfl, hD⟩; have hD2 := Lib.hid (Wd.step H3.out hgg.out (Wd.step ((Wk.refl [b, g1] _).alloc _) (.inl rfl) hD)); clear hD)
      go_roundw
      case rel =>
        refine ⟨k + 1, by omega, by go_num, ?_⟩
        rw [hst.out, List.flatMap_append, ← List.append_assoc (Bytes.wide _), ← List.append_assoc, hbk.out]
        simpa using hD2
      case measure => simp [intOf]; omega
    · have hst := Lib.hid (List.take_of_length_le (l := l) (i := k) (by omega))
      rw [hst.out] at hd
      clear hel
      go_wp2
      go_end0
      exact ⟨rfl, hd.out⟩


set_option maxRecDepth 100000 in
set_option maxHeartbeats 2000000 in
theorem putIns (b g q : Nat) (x : Ins) (va : Value) (bs : List UInt8) (w : World) (B : Nat) (h : Wr w b g bs) (hok : Ok x.op ∧ Ok x.a ∧ Ok x.b ∧ Ok x.c ∧ Ok x.n) (hs : Sl 1 EInt w B va x.args) (hBb : B ≤ b) (hBg : B ≤ g)
    (hq : w.cell? ⟨q, 0, none⟩ = some (.pointer (some ⟨b, 0, none⟩))) (hqq : q ≠ b ∧ q ≠ g) (hlen : (bs ++ insB x).length ≤ 140737488355328) :
    Calls Try.prog 76 #[.agg #[.int .i64 x.op, .int .i64 x.a, .int .i64 x.b, .int .i64 x.c, .int .i64 x.n, va], .pointer (some ⟨q, 0, none⟩)] w fun e w' => e = .returned (.tuple #[]) ∧ Wd w b g w' (bs ++ insB x) := by
  have hlt := h.lt
  have hltg := h.ltg
  have hlq := lt_cell' hq
  have hL : bs.length + 40 + (lst Bytes.wide x.args).length ≤ 140737488355328 := by simp only [insB, List.length_append, wide_len] at hlen; omega
  have HS := Lib.hid hs
  obtain ⟨aa, acap, hva, _, _, _⟩ := hs
  subst hva
  go_enter Try.func76, Try.ntmps76
  go_wp2_with fail
  refine (num b g (w.heap.size + 1) [x.op, x.a, x.b, x.c] bs _ ((h.alloc _).alloc _) (by simp) (ok4 hok.1 hok.2.1 hok.2.2.1 hok.2.2.2.1) (by simp; omega) ⟨by omega, by omega⟩ (ints4 ⟨by go_simp, by go_simp, by go_simp, by go_simp⟩)).mono ?_
  rintro e w1 ⟨rfl, hD⟩
  obtain ⟨g1, hW1, hg1, hk1⟩ := Wd.step (w0 := w.alloc (.cells #[.int .i64 x.op, .int .i64 x.a, .int .i64 x.b, .int .i64 x.c, .int .i64 x.n, .slice aa x.args.length acap] 63)) ((Wk.refl [b, g] _).alloc _) (.inl rfl) hD
  clear hD
  have a4 := hk1.cell (c := w.heap.size) (o := 4) (v := .int .i64 x.n) (by go_simp) (by simp; omega)
  have aq := hk1.cell (c := q) (o := 0) (v := .pointer (some ⟨b, 0, none⟩)) (by go_simp) (by simp; omega)
  have H1 := Lib.hid hW1; have G1 := Lib.hid hg1; have K1 := Lib.hid hk1
  clear hW1 hg1 hk1
  go_wp2_with fail
  refine (Wire.wide b g1 x.n _ _ H1.out hok.2.2.2.2 (by simp [wide_len]; omega)).mono ?_
  rintro e w2 ⟨rfl, hD⟩
  obtain ⟨g2, hW2, hg2, hk2⟩ := Wd.step K1.out G1.out hD
  clear hD a4 aq
  have a5 := hk2.cell (c := w.heap.size) (o := 5) (v := .slice aa x.args.length acap) (by go_simp) (by simp; omega)
  have aq := hk2.cell (c := q) (o := 0) (v := .pointer (some ⟨b, 0, none⟩)) (by go_simp) (by simp; omega)
  have H2 := Lib.hid hW2; have G2 := Lib.hid hg2; have K2 := Lib.hid hk2
  have hz := hk2.size
  have hqg : q ≠ g2 := by rcases hg2 with e | e <;> (try simp at e) <;> omega
  have hBg2 : B ≤ g2 := by rcases hg2 with e | e <;> (try simp at e) <;> omega
  have hs2 := Lib.hid (HS.out.mono mInt ((((Wk.refl [b, g] w).alloc _).trans hk2).below (by omega) (by simp; omega)) (Nat.le_refl _))
  clear hW2 hg2 hk2
  go_wp2_with fail
  refine (listInt b g2 q _ x.args _ _ B H2.out hs2.out hBb hBg2 aq ⟨hqq.1, hqg⟩ (by simp only [List.length_append, wides_len, wide_len, List.length_cons, List.length_nil]; omega)).mono ?_
  rintro e w3 ⟨rfl, hD⟩
  have hD3 := Lib.hid (Wd.step ((Wk.refl [b, g] w).alloc _) (.inl rfl) (Wd.step K2.out G2.out hD))
  clear hD
  go_wp2
  go_end0
  exact ⟨rfl, by simpa [insB] using hD3.out⟩

set_option maxRecDepth 100000 in
set_option maxHeartbeats 2000000 in
theorem listIns (b g q : Nat) (v : Value) (l : List Ins) (bs : List UInt8) (w : World) (B : Nat) (h : Wr w b g bs) (hs : Sl 6 EIns w B v l) (hBb : B ≤ b) (hBg : B ≤ g) (hq : w.cell? ⟨q, 0, none⟩ = some (.pointer (some ⟨b, 0, none⟩))) (hqb : q ≠ b ∧ q ≠ g) (hlen : (bs ++ lst insB l).length ≤ 140737488355328) :
    Calls Try.prog 75 #[.pointer (some ⟨b, 0, none⟩), v, .func (Fn.func 76) #[] #[.pointer (some ⟨q, 0, none⟩)]] w fun e w' => e = .returned (.tuple #[]) ∧ Wd w b g w' (bs ++ lst insB l) := by
  obtain ⟨a, cap, rfl, hlc, hcc, hel⟩ := hs
  have hlt := h.lt
  have hltg := h.ltg
  have hlen2 : bs.length + 8 + (l.flatMap insB).length ≤ 140737488355328 := by rw [lst, List.length_append, List.length_append, wide_len] at hlen; omega
  have hLen := Lib.hid hlen
  clear hlen
  go_enter Try.func75, Try.ntmps75
  go_wp2_with fail
  refine (num b g w.heap.size [(l.length : Int)] bs _ (h.alloc _) (by simp) (ok1 (by unfold Ok; omega)) (by simp; omega) ⟨by omega, by omega⟩ (ints1 (by go_simp))).mono ?_
  rintro e w1 ⟨rfl, hD⟩
  have hD1 := Lib.hid (Wd.step ((Wk.refl [b, g] w).alloc _) (.inl rfl) hD)
  clear hD
  go_wp2_with fail
  go_loopw [15] (fun i wr => ∃ k : Nat, k ≤ l.length ∧ i = .int .i64 k ∧ Hid (Wd w b g wr (bs ++ (Bytes.wide l.length ++ (l.take k).flatMap insB)))) (fun i _ => l.length - (intOf i).toNat)
  case atStart => exact ⟨0, by omega, rfl, by show Wd _ _ _ _ _; simpa using hD1.out⟩
  case round =>
    obtain ⟨k, hk, rfl, hd⟩ := hrel
    by_cases hlt2 : k < l.length
    · have hst := Lib.hid (List.take_succ_eq_append_getElem hlt2)
      obtain ⟨b1, o1, rfl, hb1, he⟩ := hel k hlt2
      obtain ⟨x, hx⟩ := HierW.at_of hlt2
      rw [hx.out] at he
      rw [hx.out] at hst
      have hle : ((l.take (k + 1)).flatMap insB).length ≤ (l.flatMap insB).length := flat_le insB l (k + 1)
      rw [hst.out, List.flatMap_append, List.length_append, List.flatMap_cons, List.flatMap_nil, List.append_nil] at hle
      obtain ⟨bk, hbk⟩ : ∃ bk, Hid (bs ++ (Bytes.wide l.length ++ (l.take k).flatMap insB) = bk) := ⟨_, rfl⟩
      have hbl : bk.length = bs.length + 8 + ((l.take k).flatMap insB).length := by rw [← hbk.out]; simp [wide_len]; omega
      rw [hbk.out] at hd
      have h8 : Hid ((bk ++ insB x).length ≤ 140737488355328) := by show _ ≤ _; rw [List.length_append]; omega
      clear hle hbl hlen2
      obtain ⟨g1, hW, hg1, hkp⟩ := hd.out
      have hBx : b1 ∉ [b, g] := by simp; omega
      have hks := hkp.size
      have hB1 : B ≤ g1 := by omega
      have hbel : Below B w _ := hkp.below (by omega) (by simp; omega)
      have hgg : Hid (g1 = g ∨ w.heap.size ≤ g1) := hg1
      obtain ⟨y0, y1, y2, y3, y4, oks, va, y5, sa⟩ := he
      have c0 := hkp.cell y0 hBx
      have c1 := hkp.cell y1 hBx
      have c2 := hkp.cell y2 hBx
      have c3 := hkp.cell y3 hBx
      have c4 := hkp.cell y4 hBx
      have c5 := hkp.cell y5 hBx
      have sv := Lib.hid (sa.mono mInt hbel (Nat.le_refl _))
      obtain ⟨aa, acap, hva, _, _, _⟩ := sa
      subst hva
      have H1 := Lib.hid hW
      have H3 := Lib.hid hkp
      have hlb := hW.lt
      have Q1 := hkp.cell hq (by simp; omega)
      have hlq2 := lt_cell' Q1
      have hqq : q ≠ b ∧ q ≠ g1 := ⟨hqb.1, by have := lt_cell' hq; omega⟩
      clear hq
      clear hel hW hg1 hkp hbel y0 y1 y2 y3 y4 y5
      go_wp2_with (go_at_call 76; refine (putIns b g1 q x _ bk _ B (H1.out.alloc _) oks (Sl.mono mInt sv.out (Below.alloc (Below.refl _ _) (by omega) _) (Nat.le_refl _)) hBb hB1 (by go_simp) hqq h8.out).mono ?_; rintro e w2 ⟨rfl, hD⟩; have hD2 := Lib.hid (Wd.step H3.out hgg.out (Wd.step ((Wk.refl [b, g1] _).alloc _) (.inl rfl) hD)); clear hD)
      go_roundw
      case rel =>
        refine ⟨k + 1, by omega, by go_num, ?_⟩
        rw [hst.out, List.flatMap_append, ← List.append_assoc (Bytes.wide _), ← List.append_assoc, hbk.out]
        simpa using hD2
      case measure => simp [intOf]; omega
    · have hst := Lib.hid (List.take_of_length_le (l := l) (i := k) (by omega))
      rw [hst.out] at hd
      clear hel
      go_wp2
      go_end0
      exact ⟨rfl, hd.out⟩


set_option maxRecDepth 100000 in
set_option maxHeartbeats 2000000 in
theorem putCls (b g q : Nat) (x : Cls) (va : Value) (bs : List UInt8) (w : World) (B : Nat) (h : Wr w b g bs) (hok : Ok x.sup) (hs : Sl 2 ETy w B va x.fields) (hBb : B ≤ b) (hBg : B ≤ g)
    (hq : w.cell? ⟨q, 0, none⟩ = some (.pointer (some ⟨b, 0, none⟩))) (hqq : q ≠ b ∧ q ≠ g) (hlen : (bs ++ clB x).length ≤ 140737488355328) :
    Calls Try.prog 32 #[.agg #[.int .i64 x.sup, va], .pointer (some ⟨q, 0, none⟩)] w fun e w' => e = .returned (.tuple #[]) ∧ Wd w b g w' (bs ++ clB x) := by
  have hlt := h.lt
  have hltg := h.ltg
  have hlq := lt_cell' hq
  have hL : bs.length + 8 + (lst tyB x.fields).length ≤ 140737488355328 := by simp only [clB, List.length_append, wide_len] at hlen; omega
  have HS := Lib.hid hs
  obtain ⟨aa, acap, hva, _, _, _⟩ := hs
  subst hva
  go_enter Try.func32, Try.ntmps32
  go_wp2_with fail
  refine (num b g (w.heap.size + 1) [x.sup] bs _ ((h.alloc _).alloc _) (by simp) (ok1 hok) (by simp; omega) ⟨by omega, by omega⟩ (ints1 (by go_simp))).mono ?_
  rintro e w1 ⟨rfl, hD⟩
  obtain ⟨g1, hW1, hg1, hk1⟩ := Wd.step (w0 := w.alloc (.cells #[.int .i64 x.sup, .slice aa x.fields.length acap] 70)) ((Wk.refl [b, g] _).alloc _) (.inl rfl) hD
  clear hD
  have a1 := hk1.cell (c := w.heap.size) (o := 1) (v := .slice aa x.fields.length acap) (by go_simp) (by simp; omega)
  have aq := hk1.cell (c := q) (o := 0) (v := .pointer (some ⟨b, 0, none⟩)) (by go_simp) (by simp; omega)
  have H1 := Lib.hid hW1; have G1 := Lib.hid hg1; have K1 := Lib.hid hk1
  have hBg1 : B ≤ g1 := by rcases hg1 with e | e <;> (try simp at e) <;> omega
  have hs2 := Lib.hid (HS.out.mono mTy ((((Wk.refl [b, g] w).alloc _).trans hk1).below (by omega) (by simp; omega)) (Nat.le_refl _))
  clear hW1 hg1 hk1
  go_wp2_with fail
  refine (listTy b g1 _ x.fields _ _ B H1.out hs2.out hBb hBg1 (by simp only [List.length_append, wides_len, wide_len, List.length_cons, List.length_nil]; omega)).mono ?_
  rintro e w3 ⟨rfl, hD⟩
  have hD3 := Lib.hid (Wd.step ((Wk.refl [b, g] w).alloc _) (.inl rfl) (Wd.step K1.out G1.out hD))
  clear hD
  go_wp2
  go_end0
  exact ⟨rfl, by simpa [clB] using hD3.out⟩

set_option maxRecDepth 100000 in
set_option maxHeartbeats 2000000 in
theorem listCls (b g q : Nat) (v : Value) (l : List Cls) (bs : List UInt8) (w : World) (B : Nat) (h : Wr w b g bs) (hs : Sl 2 ECls w B v l) (hBb : B ≤ b) (hBg : B ≤ g) (hq : w.cell? ⟨q, 0, none⟩ = some (.pointer (some ⟨b, 0, none⟩))) (hqb : q ≠ b ∧ q ≠ g) (hlen : (bs ++ lst clB l).length ≤ 140737488355328) :
    Calls Try.prog 31 #[.pointer (some ⟨b, 0, none⟩), v, .func (Fn.func 32) #[] #[.pointer (some ⟨q, 0, none⟩)]] w fun e w' => e = .returned (.tuple #[]) ∧ Wd w b g w' (bs ++ lst clB l) := by
  obtain ⟨a, cap, rfl, hlc, hcc, hel⟩ := hs
  have hlt := h.lt
  have hltg := h.ltg
  have hlen2 : bs.length + 8 + (l.flatMap clB).length ≤ 140737488355328 := by rw [lst, List.length_append, List.length_append, wide_len] at hlen; omega
  have hLen := Lib.hid hlen
  clear hlen
  go_enter Try.func31, Try.ntmps31
  go_wp2_with fail
  refine (num b g w.heap.size [(l.length : Int)] bs _ (h.alloc _) (by simp) (ok1 (by unfold Ok; omega)) (by simp; omega) ⟨by omega, by omega⟩ (ints1 (by go_simp))).mono ?_
  rintro e w1 ⟨rfl, hD⟩
  have hD1 := Lib.hid (Wd.step ((Wk.refl [b, g] w).alloc _) (.inl rfl) hD)
  clear hD
  go_wp2_with fail
  go_loopw [15] (fun i wr => ∃ k : Nat, k ≤ l.length ∧ i = .int .i64 k ∧ Hid (Wd w b g wr (bs ++ (Bytes.wide l.length ++ (l.take k).flatMap clB)))) (fun i _ => l.length - (intOf i).toNat)
  case atStart => exact ⟨0, by omega, rfl, by show Wd _ _ _ _ _; simpa using hD1.out⟩
  case round =>
    obtain ⟨k, hk, rfl, hd⟩ := hrel
    by_cases hlt2 : k < l.length
    · have hst := Lib.hid (List.take_succ_eq_append_getElem hlt2)
      obtain ⟨b1, o1, rfl, hb1, he⟩ := hel k hlt2
      obtain ⟨x, hx⟩ := HierW.at_of hlt2
      rw [hx.out] at he
      rw [hx.out] at hst
      have hle : ((l.take (k + 1)).flatMap clB).length ≤ (l.flatMap clB).length := flat_le clB l (k + 1)
      rw [hst.out, List.flatMap_append, List.length_append, List.flatMap_cons, List.flatMap_nil, List.append_nil] at hle
      obtain ⟨bk, hbk⟩ : ∃ bk, Hid (bs ++ (Bytes.wide l.length ++ (l.take k).flatMap clB) = bk) := ⟨_, rfl⟩
      have hbl : bk.length = bs.length + 8 + ((l.take k).flatMap clB).length := by rw [← hbk.out]; simp [wide_len]; omega
      rw [hbk.out] at hd
      have h8 : Hid ((bk ++ clB x).length ≤ 140737488355328) := by show _ ≤ _; rw [List.length_append]; omega
      clear hle hbl hlen2
      obtain ⟨g1, hW, hg1, hkp⟩ := hd.out
      have hBx : b1 ∉ [b, g] := by simp; omega
      have hks := hkp.size
      have hB1 : B ≤ g1 := by omega
      have hbel : Below B w _ := hkp.below (by omega) (by simp; omega)
      have hgg : Hid (g1 = g ∨ w.heap.size ≤ g1) := hg1
      obtain ⟨y0, ok0, va, y1, sa⟩ := he
      have c0 := hkp.cell y0 hBx
      have c1 := hkp.cell y1 hBx
      have sv := Lib.hid (sa.mono mTy hbel (Nat.le_refl _))
      obtain ⟨aa, acap, hva, _, _, _⟩ := sa
      subst hva
      have H1 := Lib.hid hW
      have H3 := Lib.hid hkp
      have hlb := hW.lt
      have Q1 := hkp.cell hq (by simp; omega)
      have hlq2 := lt_cell' Q1
      have hqq : q ≠ b ∧ q ≠ g1 := ⟨hqb.1, by have := lt_cell' hq; omega⟩
      clear hq
      clear hel hW hg1 hkp hbel y0 y1
      go_wp2_with (go_at_call 32; refine (putCls b g1 q x _ bk _ B (H1.out.alloc _) ok0 (Sl.mono mTy sv.out (Below.alloc (Below.refl _ _) (by omega) _) (Nat.le_refl _)) hBb hB1 (by go_simp) hqq h8.out).mono ?_; rintro e w2 ⟨rfl, hD⟩; have hD2 := Lib.hid (Wd.step H3.out hgg.out (Wd.step ((Wk.refl [b, g1] _).alloc _) (.inl rfl) hD)); clear hD)
      go_roundw
      case rel =>
        refine ⟨k + 1, by omega, by go_num, ?_⟩
        rw [hst.out, List.flatMap_append, ← List.append_assoc (Bytes.wide _), ← List.append_assoc, hbk.out]
        simpa using hD2
      case measure => simp [intOf]; omega
    · have hst := Lib.hid (List.take_of_length_le (l := l) (i := k) (by omega))
      rw [hst.out] at hd
      clear hel
      go_wp2
      go_end0
      exact ⟨rfl, hd.out⟩


set_option maxRecDepth 100000 in
set_option maxHeartbeats 4000000 in
theorem method (b g : Nat) (x : Me) (vm : Value) (bs : List UInt8) (w : World) (B : Nat) (h : Wr w b g bs) (hm : VMe w B vm x) (hBb : B ≤ b) (hBg : B ≤ g) (hlen : (bs ++ meB x).length ≤ 140737488355328) :
    Calls Try.prog 37 #[.pointer (some ⟨b, 0, none⟩), vm] w fun e w' => e = .returned (.tuple #[]) ∧ Wd w b g w' (bs ++ meB x) := by
  have hlt := h.lt
  have hltg := h.ltg
  have hL : bs.length + (lst tyB x.params).length + 40 + (lst insB x.code).length + (lst hdB x.handlers).length ≤ 140737488355328 := by simp only [meB, tyB, List.length_append, wide_len] at hlen; omega
  obtain ⟨vp, vc, vh, rfl, ⟨ok0, ok1', ok2', ok3', ok4'⟩, s1, s2, s3⟩ := hm
  have S1 := Lib.hid s1; have S2 := Lib.hid s2; have S3 := Lib.hid s3
  obtain ⟨pa, pcap, hva, _, _, _⟩ := s1
  subst hva
  obtain ⟨da, dcap, hva, _, _, _⟩ := s2
  subst hva
  obtain ⟨ha, hcap, hva, _, _, _⟩ := s3
  subst hva
  go_enter Try.func37, Try.ntmps37
  go_wp2_with fail
  have hWW : Wr ((w.alloc (.cells #[.pointer (some ⟨b, 0, none⟩)] 65)).alloc (.cells #[.slice pa x.params.length pcap, .int .i64 x.ret.kind, .int .i64 x.ret.cls, .int .i64 x.stack, .int .i64 x.locals, .int .i64 x.regs, .slice da x.code.length dcap, .slice ha x.handlers.length hcap] 55)) b g bs := (h.alloc _).alloc _
  refine (listTy b g _ x.params bs _ B hWW (S1.out.mono mTy ((((Wk.refl [b, g] w).alloc _).alloc _).below (by omega) (by simp; omega)) (Nat.le_refl _)) hBb hBg (by simp only [List.length_append]; omega)).mono ?_
  rintro e w1 ⟨rfl, hD⟩
  obtain ⟨g1, hW1, hg1, hk1⟩ := hD
  have a0 := hk1.cell (c := w.heap.size) (o := 0) (v := .pointer (some ⟨b, 0, none⟩)) (by go_simp) (by simp; omega)
  have a1 := hk1.cell (c := w.heap.size + 1) (o := 1) (v := .int .i64 x.ret.kind) (by go_simp) (by simp; omega)
  have a2 := hk1.cell (c := w.heap.size + 1) (o := 2) (v := .int .i64 x.ret.cls) (by go_simp) (by simp; omega)
  have H1 := Lib.hid hW1; have G1 := Lib.hid hg1; have K1 := Lib.hid hk1
  clear hW1 hg1 hk1
  go_wp2_with fail
  refine (kind b g1 x.ret _ _ H1.out ⟨ok0, ok1'⟩ (by simp only [List.length_append]; omega)).mono ?_
  rintro e w2 ⟨rfl, hD⟩
  obtain ⟨g2, hW2, hg2, hk2⟩ := Wd.step K1.out G1.out hD
  clear hD a0 a1 a2
  have a0 := hk2.cell (c := w.heap.size) (o := 0) (v := .pointer (some ⟨b, 0, none⟩)) (by go_simp) (by simp; omega)
  have a3 := hk2.cell (c := w.heap.size + 1) (o := 3) (v := .int .i64 x.stack) (by go_simp) (by simp; omega)
  have a4 := hk2.cell (c := w.heap.size + 1) (o := 4) (v := .int .i64 x.locals) (by go_simp) (by simp; omega)
  have a5 := hk2.cell (c := w.heap.size + 1) (o := 5) (v := .int .i64 x.regs) (by go_simp) (by simp; omega)
  have hz2 := hk2.size
  have hb2 := hW2.lt
  have hg2' := hW2.ltg
  have H2 := Lib.hid hW2; have G2 := Lib.hid hg2; have K2 := Lib.hid hk2
  clear hW2 hg2 hk2
  go_wp2_with fail
  refine (num b g2 w2.heap.size [x.stack, x.locals, x.regs] _ _ (H2.out.alloc _) (by simp) (ok3 ok2' ok3' ok4') (by simp [tyB, wide_len]; omega) ⟨by omega, by omega⟩ (ints3 ⟨by go_simp, by go_simp, by go_simp⟩)).mono ?_
  rintro e w3 ⟨rfl, hD⟩
  obtain ⟨g3, hW3, hg3, hk3⟩ := Wd.step K2.out G2.out (Wd.step ((Wk.refl [b, g2] w2).alloc _) (.inl rfl) hD)
  clear hD a0 a3 a4 a5
  have a0 := hk3.cell (c := w.heap.size) (o := 0) (v := .pointer (some ⟨b, 0, none⟩)) (by go_simp) (by simp; omega)
  have a6 := hk3.cell (c := w.heap.size + 1) (o := 6) (v := .slice da x.code.length dcap) (by go_simp) (by simp; omega)
  have hBg3 : B ≤ g3 ∧ w.heap.size ≠ g3 := by rcases hg3 with e | e <;> (try simp at e) <;> omega
  have hs3 := Lib.hid (S2.out.mono mIns (((((Wk.refl [b, g] w).alloc _).alloc _).trans hk3).below (by omega) (by simp; omega)) (Nat.le_refl _))
  have H3 := Lib.hid hW3; have G3 := Lib.hid hg3; have K3 := Lib.hid hk3
  clear hW3 hg3 hk3
  go_wp2_with fail
  refine (listIns b g3 w.heap.size _ x.code _ _ B H3.out hs3.out hBb hBg3.1 a0 ⟨by omega, hBg3.2⟩ (by simp only [List.length_append, wides_len, tyB, wide_len, List.length_cons, List.length_nil]; omega)).mono ?_
  rintro e w4 ⟨rfl, hD⟩
  obtain ⟨g4, hW4, hg4, hk4⟩ := Wd.step K3.out G3.out hD
  clear hD a0 a6
  have a0 := hk4.cell (c := w.heap.size) (o := 0) (v := .pointer (some ⟨b, 0, none⟩)) (by go_simp) (by simp; omega)
  have a7 := hk4.cell (c := w.heap.size + 1) (o := 7) (v := .slice ha x.handlers.length hcap) (by go_simp) (by simp; omega)
  have hBg4 : B ≤ g4 ∧ w.heap.size ≠ g4 := by rcases hg4 with e | e <;> (try simp at e) <;> omega
  have hs4 := Lib.hid (S3.out.mono mHd (((((Wk.refl [b, g] w).alloc _).alloc _).trans hk4).below (by omega) (by simp; omega)) (Nat.le_refl _))
  have H4 := Lib.hid hW4; have G4 := Lib.hid hg4; have K4 := Lib.hid hk4
  clear hW4 hg4 hk4
  go_wp2_with fail
  refine (listHd b g4 w.heap.size _ x.handlers _ _ B H4.out hs4.out hBb hBg4.1 a0 ⟨by omega, hBg4.2⟩ (by simp only [List.length_append, wides_len, tyB, wide_len, List.length_cons, List.length_nil]; omega)).mono ?_
  rintro e w5 ⟨rfl, hD⟩
  have hD5 := Lib.hid (Wd.step (((Wk.refl [b, g] w).alloc _).alloc _) (.inl rfl) (Wd.step K4.out G4.out hD))
  clear hD
  go_wp2
  go_end0
  exact ⟨rfl, by simpa [meB, tyB] using hD5.out⟩

set_option maxRecDepth 100000 in
set_option maxHeartbeats 2000000 in
theorem listMe (b g : Nat) (v : Value) (l : List Me) (bs : List UInt8) (w : World) (B : Nat) (h : Wr w b g bs) (hs : Sl 8 EMe w B v l) (hBb : B ≤ b) (hBg : B ≤ g) (hlen : (bs ++ lst meB l).length ≤ 140737488355328) :
    Calls Try.prog 36 #[.pointer (some ⟨b, 0, none⟩), v, .func (Fn.func 37) #[.pointer (some ⟨b, 0, none⟩)] #[]] w fun e w' => e = .returned (.tuple #[]) ∧ Wd w b g w' (bs ++ lst meB l) := by
  obtain ⟨a, cap, rfl, hlc, hcc, hel⟩ := hs
  have hlt := h.lt
  have hltg := h.ltg
  have hlen2 : bs.length + 8 + (l.flatMap meB).length ≤ 140737488355328 := by rw [lst, List.length_append, List.length_append, wide_len] at hlen; omega
  have hLen := Lib.hid hlen
  clear hlen
  go_enter Try.func36, Try.ntmps36
  go_wp2_with fail
  refine (num b g w.heap.size [(l.length : Int)] bs _ (h.alloc _) (by simp) (ok1 (by unfold Ok; omega)) (by simp; omega) ⟨by omega, by omega⟩ (ints1 (by go_simp))).mono ?_
  rintro e w1 ⟨rfl, hD⟩
  have hD1 := Lib.hid (Wd.step ((Wk.refl [b, g] w).alloc _) (.inl rfl) hD)
  clear hD
  go_wp2_with fail
  go_loopw [15] (fun i wr => ∃ k : Nat, k ≤ l.length ∧ i = .int .i64 k ∧ Hid (Wd w b g wr (bs ++ (Bytes.wide l.length ++ (l.take k).flatMap meB)))) (fun i _ => l.length - (intOf i).toNat)
  case atStart => exact ⟨0, by omega, rfl, by show Wd _ _ _ _ _; simpa using hD1.out⟩
  case round =>
    obtain ⟨k, hk, rfl, hd⟩ := hrel
    by_cases hlt2 : k < l.length
    · have hst := Lib.hid (List.take_succ_eq_append_getElem hlt2)
      obtain ⟨b1, o1, rfl, hb1, he⟩ := hel k hlt2
      obtain ⟨x, hx⟩ := HierW.at_of hlt2
      rw [hx.out] at he
      rw [hx.out] at hst
      have hle : ((l.take (k + 1)).flatMap meB).length ≤ (l.flatMap meB).length := flat_le meB l (k + 1)
      rw [hst.out, List.flatMap_append, List.length_append, List.flatMap_cons, List.flatMap_nil, List.append_nil] at hle
      obtain ⟨bk, hbk⟩ : ∃ bk, Hid (bs ++ (Bytes.wide l.length ++ (l.take k).flatMap meB) = bk) := ⟨_, rfl⟩
      have hbl : bk.length = bs.length + 8 + ((l.take k).flatMap meB).length := by rw [← hbk.out]; simp [wide_len]; omega
      rw [hbk.out] at hd
      have h8 : Hid ((bk ++ meB x).length ≤ 140737488355328) := by show _ ≤ _; rw [List.length_append]; omega
      clear hle hbl hlen2
      obtain ⟨g1, hW, hg1, hkp⟩ := hd.out
      have hBx : b1 ∉ [b, g] := by simp; omega
      have hks := hkp.size
      have hB1 : B ≤ g1 := by omega
      have hbel : Below B w _ := hkp.below (by omega) (by simp; omega)
      have hgg : Hid (g1 = g ∨ w.heap.size ≤ g1) := hg1
      obtain ⟨vp, vc, vh, y0, y1, y2, y3, y4, y5, y6, y7, oks, s1, s2, s3⟩ := he
      have c0 := hkp.cell y0 hBx
      have c1 := hkp.cell y1 hBx
      have c2 := hkp.cell y2 hBx
      have c3 := hkp.cell y3 hBx
      have c4 := hkp.cell y4 hBx
      have c5 := hkp.cell y5 hBx
      have c6 := hkp.cell y6 hBx
      have c7 := hkp.cell y7 hBx
      have sv := Lib.hid (VMe.mono (v := .agg #[vp, .int .i64 x.ret.kind, .int .i64 x.ret.cls, .int .i64 x.stack, .int .i64 x.locals, .int .i64 x.regs, vc, vh]) ⟨vp, vc, vh, rfl, oks, s1, s2, s3⟩ hbel (Nat.le_refl _))
      obtain ⟨pa, pcap, hva, _, _, _⟩ := s1
      subst hva
      obtain ⟨da, dcap, hva, _, _, _⟩ := s2
      subst hva
      obtain ⟨ha, hcap, hva, _, _, _⟩ := s3
      subst hva
      have H1 := Lib.hid hW
      have H3 := Lib.hid hkp
      have hlb := hW.lt
      skip
      clear hel hW hg1 hkp hbel y0 y1 y2 y3 y4 y5 y6 y7
      go_wp2_with (go_at_call 37; refine (method b g1 x _ bk _ B (H1.out.alloc _) (VMe.mono sv.out (Below.alloc (Below.refl _ _) (by omega) _) (Nat.le_refl _)) hBb hB1 h8.out).mono ?_; rintro e w2 ⟨rfl, hD⟩; have hD2 := Lib.hid (Wd.step H3.out hgg.out (Wd.step ((Wk.refl [b, g1] _).alloc _) (.inl rfl) hD)); clear hD)
      go_roundw
      case rel =>
        refine ⟨k + 1, by omega, by go_num, ?_⟩
        rw [hst.out, List.flatMap_append, ← List.append_assoc (Bytes.wide _), ← List.append_assoc, hbk.out]
        simpa using hD2
      case measure => simp [intOf]; omega
    · have hst := Lib.hid (List.take_of_length_le (l := l) (i := k) (by omega))
      rw [hst.out] at hd
      clear hel
      go_wp2
      go_end0
      exact ⟨rfl, hd.out⟩

end Wire
end Go.Proofs.Ytncmhenfgbcihab
