/- Writing bytes: types, lists of types. -/
import Derived.Test.YtncmhenfgbcihabWr
namespace Go.Proofs.Ytncmhenfgbcihab
open Go.RowKit
set_option linter.unusedSimpArgs false
set_option linter.unusedVariables false
namespace Wire
open Num Rd D Bytes

theorem ints1 {w : World} {nb : Nat} {a : Int} (h : w.cell? ⟨nb, 0, none⟩ = some (.int .i64 a)) : ∀ i (h : i < [a].length), w.cell? ⟨nb, i, none⟩ = some (.int .i64 [a][i]) := fun i hi => by
  match i, hi with
  | 0, _ => exact h
theorem ints2 {w : World} {nb : Nat} {a b : Int} (h : w.cell? ⟨nb, 0, none⟩ = some (.int .i64 a) ∧ w.cell? ⟨nb, 1, none⟩ = some (.int .i64 b)) : ∀ i (h : i < [a, b].length), w.cell? ⟨nb, i, none⟩ = some (.int .i64 [a, b][i]) := fun i hi => by
  match i, hi with
  | 0, _ => exact h.1
  | 1, _ => exact h.2
theorem ok1 {a : Int} (h : Ok a) : ∀ i (h : i < [a].length), Ok [a][i] := fun i hi => by
  match i, hi with
  | 0, _ => exact h
theorem ok2 {a b : Int} (h1 : Ok a) (h2 : Ok b) : ∀ i (h : i < [a, b].length), Ok [a, b][i] := fun i hi => by
  match i, hi with
  | 0, _ => exact h1
  | 1, _ => exact h2

set_option maxHeartbeats 1000000 in
theorem kind (b g : Nat) (t : Ty) (bs : List UInt8) (w : World) (h : Wr w b g bs) (hok : TyOk t) (hlen : bs.length + 16 ≤ 140737488355328) :
    Calls Try.prog 35 #[.pointer (some ⟨b, 0, none⟩), .agg #[.int .i64 t.kind, .int .i64 t.cls]] w fun e w' => e = .returned (.tuple #[]) ∧ Wd w b g w' (bs ++ tyB t) := by
  have hlt := h.lt
  have hltg := h.ltg
  go_enter Try.func35, Try.ntmps35
  go_wp2_with fail
  refine (num b g (w.heap.size + 1) [t.kind, t.cls] bs _ ((h.alloc _).alloc _) (by simp) (ok2 hok.1 hok.2) (by simp; omega) ⟨by omega, by omega⟩ (ints2 ⟨by go_simp, by go_simp⟩)).mono ?_
  rintro e w1 ⟨rfl, hD⟩
  have hD2 := Lib.hid (Wd.step (((Wk.refl [b, g] w).alloc _).alloc _) (.inl rfl) hD)
  clear hD
  go_wp2
  go_end0
  exact ⟨rfl, by simpa [tyB] using hD2.out⟩

theorem lt_cell' {w : World} {b o : Nat} {v : Value} (h : w.cell? ⟨b, o, none⟩ = some v) : b < w.heap.size := World.block_lt_of_cell? w _ h
theorem flat_le {α : Type} (e : α → List UInt8) (l : List α) (k : Nat) : ((l.take k).flatMap e).length ≤ (l.flatMap e).length := by
  conv => rhs; rw [← List.take_append_drop k l]
  rw [List.flatMap_append, List.length_append]; omega

set_option maxRecDepth 100000 in
set_option maxHeartbeats 2000000 in
theorem listTy (b g : Nat) (v : Value) (l : List Ty) (bs : List UInt8) (w : World) (B : Nat) (h : Wr w b g bs) (hs : Sl 2 ETy w B v l) (hBb : B ≤ b) (hBg : B ≤ g) (hlen : (bs ++ lst tyB l).length ≤ 140737488355328) :
    Calls Try.prog 34 #[.pointer (some ⟨b, 0, none⟩), v, .func (Fn.func 35) #[.pointer (some ⟨b, 0, none⟩)] #[]] w fun e w' => e = .returned (.tuple #[]) ∧ Wd w b g w' (bs ++ lst tyB l) := by
  obtain ⟨a, cap, rfl, hlc, hcc, hel⟩ := hs
  have hlt := h.lt
  have hltg := h.ltg
  have hlen2 : bs.length + 8 + (l.flatMap tyB).length ≤ 140737488355328 := by rw [lst, List.length_append, List.length_append, wide_len] at hlen; omega
  have hLen := Lib.hid hlen
  clear hlen
  go_enter Try.func34, Try.ntmps34
  go_wp2_with fail
  refine (num b g w.heap.size [(l.length : Int)] bs _ (h.alloc _) (by simp) (ok1 (by unfold Ok; omega)) (by simp; omega) ⟨by omega, by omega⟩ (ints1 (by go_simp))).mono ?_
  rintro e w1 ⟨rfl, hD⟩
  have hD1 := Lib.hid (Wd.step ((Wk.refl [b, g] w).alloc _) (.inl rfl) hD)
  clear hD
  go_wp2_with fail
  go_loopw [15] (fun i wr => ∃ k : Nat, k ≤ l.length ∧ i = .int .i64 k ∧ Hid (Wd w b g wr (bs ++ (Bytes.wide l.length ++ (l.take k).flatMap tyB)))) (fun i _ => l.length - (intOf i).toNat)
  case atStart => exact ⟨0, by omega, rfl, by show Wd _ _ _ _ _; simpa using hD1.out⟩
  case round =>
    obtain ⟨k, hk, rfl, hd⟩ := hrel
    by_cases hlt2 : k < l.length
    · have hst := Lib.hid (List.take_succ_eq_append_getElem hlt2)
      obtain ⟨b1, o1, rfl, hb1, he⟩ := hel k hlt2
      obtain ⟨x, hx⟩ := HierW.at_of hlt2
      rw [hx.out] at he
      rw [hx.out] at hst
      have hle : ((l.take (k + 1)).flatMap tyB).length ≤ (l.flatMap tyB).length := flat_le tyB l (k + 1)
      rw [hst.out, List.flatMap_append, List.length_append, List.flatMap_cons, List.flatMap_nil, List.append_nil] at hle
      obtain ⟨bk, hbk⟩ : ∃ bk, Hid (bs ++ (Bytes.wide l.length ++ (l.take k).flatMap tyB) = bk) := ⟨_, rfl⟩
      have hbl : bk.length = bs.length + 8 + ((l.take k).flatMap tyB).length := by rw [← hbk.out]; simp [wide_len]; omega
      rw [hbk.out] at hd
      have h8 : Hid ((bk ++ tyB x).length ≤ 140737488355328) := by show _ ≤ _; rw [List.length_append]; omega
      clear hle hbl hlen2
      obtain ⟨g1, hW, hg1, hkp⟩ := hd.out
      have hBx : b1 ∉ [b, g] := by simp; omega
      have hks := hkp.size
      have hB1 : B ≤ g1 := by omega
      have hbel : Below B w _ := hkp.below (by omega) (by simp; omega)
      have hgg : Hid (g1 = g ∨ w.heap.size ≤ g1) := hg1
      obtain ⟨y0, y1, ok0, ok1⟩ := he
      have c0 := hkp.cell y0 hBx
      have c1 := hkp.cell y1 hBx
      skip
      have H1 := Lib.hid hW
      have H3 := Lib.hid hkp
      have hlb := hW.lt
      skip
      clear hel hW hg1 hkp hbel y0 y1
      go_wp2_with (go_at_call 35; refine (kind b g1 x bk _ (H1.out.alloc _) ⟨ok0, ok1⟩ (by have := h8.out; simp [tyB, wide_len] at this; omega)).mono ?_; rintro e w2 ⟨rfl, hD⟩; have hD2 := Lib.hid (Wd.step H3.out hgg.out (Wd.step ((Wk.refl [b, g1] _).alloc _) (.inl rfl) hD)); clear hD)
      go_roundw
      case rel =>
        refine ⟨k + 1, by omega, by go_num, ?_⟩
        rw [hst.out, List.flatMap_append, ← List.append_assoc (Bytes.wide _), ← List.append_assoc, hbk.out]
        simpa using hD2
      case measure => simp [intOf]; omega
    · have hst := Lib.hid (List.take_of_length_le (l := l) (i := k) (by omega))
      rw [hst.out] at hd
      clear hel
      go_wp2
      go_end0
      exact ⟨rfl, hd.out⟩

end Wire
end Go.Proofs.Ytncmhenfgbcihab
