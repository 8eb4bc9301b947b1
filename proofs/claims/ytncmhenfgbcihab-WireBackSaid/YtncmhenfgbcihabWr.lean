/- Writing bytes: the writer, as a world holds it; its methods wide and num. -/
import Derived.Test.YtncmhenfgbcihabBytes
import Derived.Test.YtncmhenfgbcihabHierW
import Derived.Test.YtncmhenfgbcihabRdO
import Derived.WalkKit
import Derived.WalkLawsBesides
import Derived.WalkSpells
import Derived.Deep.AppendLies
import Derived.Deep.RegionLaw
import Derived.Lib.Hide
namespace Go.Proofs.Ytncmhenfgbcihab
open Go.RowKit
set_option linter.unusedSimpArgs false
set_option linter.unusedVariables false

/-- a world is as it was, but for new blocks and some others -/
structure Wk (X : List Nat) (w w' : World) : Prop where
  os : w'.os = w.os
  tape : w'.tape = w.tape
  output : w'.output = w.output
  size : w.heap.size ≤ w'.heap.size
  block : ∀ k, k < w.heap.size → k ∉ X → w'.heap[k]? = w.heap[k]?
namespace Wk
variable {X : List Nat} {w w' w'' : World}
theorem refl (X : List Nat) (w : World) : Wk X w w := ⟨rfl, rfl, rfl, Nat.le_refl _, fun _ _ _ => rfl⟩
theorem trans (h : Wk X w w') (k : Wk X w' w'') : Wk X w w'' :=
  ⟨k.os.trans h.os, k.tape.trans h.tape, k.output.trans h.output, Nat.le_trans h.size k.size, fun i hi hn => (k.block i (Nat.lt_of_lt_of_le hi h.size) hn).trans (h.block i hi hn)⟩
/-- a later step may turn what is new, too -/
theorem trans' {Y : List Nat} (h : Wk X w w') (k : Wk Y w' w'') (hY : ∀ y ∈ Y, y ∈ X ∨ w.heap.size ≤ y) : Wk X w w'' :=
  ⟨k.os.trans h.os, k.tape.trans h.tape, k.output.trans h.output, Nat.le_trans h.size k.size, fun i hi hn => (k.block i (Nat.lt_of_lt_of_le hi h.size) (fun hy => (hY i hy).elim hn (fun h => by omega))).trans (h.block i hi hn)⟩
theorem of_below' (h : Below w.heap.size w w') : Wk X w w' := ⟨h.os, h.tape, h.output, h.size, fun k hk _ => h.block k hk⟩
theorem alloc (h : Wk X w w') (o : Obj) : Wk X w (w'.alloc o) := h.trans (of_below' ((Below.refl _ _).alloc (Nat.le_refl _) o))
theorem drew (h : Wk X w w') : Wk X w w'.drew := ⟨h.os, h.tape, h.output, h.size, h.block⟩
theorem drewN (h : Wk X w w') (n : Nat) : Wk X w (w'.drewN n) := ⟨h.os, h.tape, h.output, h.size, h.block⟩
theorem setCell (h : Wk X w w') {p : Addr} (hp : p.block ∈ X ∨ w.heap.size ≤ p.block) (u : Value) : Wk X w (w'.setCell p u) :=
  ⟨h.os, h.tape, h.output, by simpa [World.setCell] using h.size, fun k hk hn => (Below.heap_setCell _ _ _ _ (fun e => by
    rcases hp with hp | hp
    · rw [e] at hn; exact hn hp
    · omega)).trans (h.block k hk hn)⟩
theorem mono {Y : List Nat} (h : Wk X w w') (hY : ∀ x ∈ X, x ∈ Y) : Wk Y w w' := ⟨h.os, h.tape, h.output, h.size, fun k hk hn => h.block k hk (fun hx => hn (hY k hx))⟩
theorem cell (h : Wk X w w') {c o : Nat} {v : Value} (hc : w.cell? ⟨c, o, none⟩ = some v) (h2 : c ∉ X) : w'.cell? ⟨c, o, none⟩ = some v :=
  (World.cell?_of_block (a := ⟨c, o, none⟩) (h.block c (World.block_lt_of_cell? w _ hc) h2)).trans hc
theorem below (h : Wk X w w') {B : Nat} (h1 : B ≤ w.heap.size) (h2 : ∀ x ∈ X, B ≤ x) : Below B w w' := ⟨h.os, h.tape, h.output, h.size, fun k hk => h.block k (by omega) (fun hx => by have := h2 k hx; omega)⟩
theorem of_below {B : Nat} (h : Below B w w') (hB : w.heap.size ≤ B) : Wk X w w' := ⟨h.os, h.tape, h.output, h.size, fun k hk _ => h.block k (by omega)⟩
theorem of_grown {row : Option Nat} (h : w.grownBy w' row) (hr : ∀ k, row = some k → k ∈ X) : Wk X w w' := ⟨h.os, h.tape, h.output, h.size, fun k hk hn => h.block k hk (fun e => hn (hr k e.symm))⟩
end Wk

namespace Wire
open Num Rd D Bytes

def cells (bs : List UInt8) : List Value := bs.map fun c => .int .u8 c.toNat

/-- the writer at block b: its bytes lie in block g -/
def Wr (w : World) (b g : Nat) (bs : List UInt8) : Prop :=
  g ≠ b ∧ ∃ cap, w.cell? ⟨b, 0, none⟩ = some (.slice (some ⟨g, 0, none⟩) bs.length cap) ∧ w.frozen? ⟨b, 0, none⟩ = false ∧ w.ownsRow 0 5 1 (.slice (some ⟨g, 0, none⟩) bs.length cap) bs.length (cells bs)
/-- what a method of the writer leaves -/
def Wd (w0 : World) (b g0 : Nat) (w : World) (bs : List UInt8) : Prop := ∃ g, Wr w b g bs ∧ (g = g0 ∨ w0.heap.size ≤ g) ∧ Wk [b, g0] w0 w

theorem Wr.lt {w : World} {b g : Nat} {bs : List UInt8} (h : Wr w b g bs) : b < w.heap.size := by
  obtain ⟨_, cap, h1, _⟩ := h; exact World.block_lt_of_cell? w _ h1
theorem Wr.ltg {w : World} {b g : Nat} {bs : List UInt8} (h : Wr w b g bs) : g < w.heap.size := by
  obtain ⟨_, cap, _, _, h1⟩ := h; exact (h1.lt g rfl).2
theorem Wr.next {w w' : World} {b g : Nat} {bs : List UInt8} (h : Wr w b g bs) {X : List Nat} (hk : Wk X w w') (hb : b ∉ X) (hg : g ∉ X) : Wr w' b g bs := by
  have h1 := h.lt; have h2 := h.ltg
  obtain ⟨hne, cap, hc, hf, ho⟩ := h
  refine ⟨hne, cap, hk.cell hc hb, (World.frozen?_of_block (a := ⟨b, 0, none⟩) (hk.block b h1 hb)).trans hf, ho.1, ?_⟩
  rcases ho.2 with hn | ⟨g', cap', cur, hv, hb', hgg, rest⟩
  · exact absurd hn.1 (by simp)
  · simp at hv
    obtain ⟨rfl, rfl⟩ := hv
    exact .inr ⟨_, _, cur, rfl, hb', by rw [hk.block _ h2 hg]; exact hgg, rest⟩
theorem Wr.alloc {w : World} {b g : Nat} {bs : List UInt8} (h : Wr w b g bs) (o : Obj) : Wr (w.alloc o) b g bs := h.next (X := []) ((Wk.refl _ _).alloc o) (by simp) (by simp)
theorem Wd.refl {w : World} {b g : Nat} {bs : List UInt8} (h : Wr w b g bs) : Wd w b g w bs := ⟨g, h, .inl rfl, Wk.refl _ _⟩
/-- one step behind another one -/
theorem Wd.step {w0 w w' : World} {b g0 g : Nat} {bs : List UInt8} (hk : Wk [b, g0] w0 w) (hg : g = g0 ∨ w0.heap.size ≤ g) (h : Wd w b g w' bs) : Wd w0 b g0 w' bs := by
  obtain ⟨g', h1, h2, h3⟩ := h
  have := hk.size
  refine ⟨g', h1, ?_, hk.trans' h3 (fun y hy => ?_)⟩
  · rcases h2 with h2 | h2
    · subst h2; exact hg
    · right; omega
  · simp at hy ⊢
    rcases hy with hy | hy
    · exact .inl (.inl hy)
    · subst hy; rcases hg with hg | hg
      · exact .inl (.inr hg)
      · exact .inr hg

theorem info_u8 : (Try.prog.info? 5).map (fun i => (i.zero, i.size, i.bytes)) = some (some (.int .u8 0), 1, 1) := by kernel_rfl
theorem cells_snoc (l : List UInt8) (c : UInt8) : cells (l ++ [c]) = cells l ++ [.int .u8 c.toNat] := by simp [cells]

theorem wrap_u8 (n : Int) : IntKind.u8.wrap n = n % 256 := by simp [IntKind.wrap, IntKind.signed, IntKind.bits]
theorem news1 (w : World) (v : Value) (t : TypeId) : ∀ j u, [v][j]? = some u → (w.alloc (.cells #[v] t)).drew.cell? ((⟨w.heap.size, 0, none⟩ : Addr).add j) = some u := fun j u hj => by
  match j, hj with
  | 0, hj => simp at hj; subst hj; simp [Addr.add]
  | (j + 1), hj => simp at hj

theorem grown_step {wr w2 : World} {o : Obj} {g1 n cap : Nat} (h : (wr.alloc o).drew.grownBy w2 (Value.slice (some ⟨g1, 0, none⟩) n cap).ownBlock) : Wk [g1] wr w2 :=
  ((Wk.refl [g1] wr).alloc o).drew.trans (Wk.of_grown h (fun k hk => by simp [Value.ownBlock] at hk; simp [hk]))

theorem nameW (P : World → Prop) {w : World} {Q : World → Prop} (h : P w) (k : ∀ W, P W → Q W) : Q w := k w h
/-- one byte more -/
theorem wrote1 {wr w2 : World} {b g1 g2 cap cap2 : Nat} {bj : List UInt8} {c : UInt8} {o : Obj} (hW : Wr wr b g1 bj) (hk : Wk [g1] wr w2)
    (ho : w2.ownsRow 0 5 1 (.slice (some ⟨g2, 0, none⟩) (bj.length + 1) cap2) (bj.length + 1) (cells bj ++ [.int .u8 c.toNat]))
    (ha : (Value.slice (some ⟨g1, 0, none⟩) bj.length cap).ownBlock = some g2 ∨ g2 = (wr.alloc o).drew.heap.size) :
    Wd wr b g1 (w2.setCell ⟨b, 0, none⟩ (.slice (some ⟨g2, 0, none⟩) (bj.length + 1) cap2)) (bj ++ [c]) := by
  have h1 := hW.lt
  have h2 := hW.ltg
  obtain ⟨hne, cap0, hc, hf, ho0⟩ := hW
  have ha' : g2 = g1 ∨ wr.heap.size ≤ g2 := by
    rcases ha with ha | ha
    · simp [Value.ownBlock] at ha; exact .inl ha.symm
    · right; rw [ha]; show _ ≤ (wr.alloc o).heap.size; simp
  have hb1 : b ∉ [g1] := by simp; exact fun e => hne e.symm
  have hc2 := hk.cell hc hb1
  have hf2 : w2.frozen? ⟨b, 0, none⟩ = false := (World.frozen?_of_block (a := ⟨b, 0, none⟩) (hk.block b h1 hb1)).trans hf
  have hne2 : g2 ≠ b := by rcases ha' with e | e <;> omega
  refine ⟨g2, ⟨hne2, cap2, ?_, ?_, ?_, ?_⟩, ha', ?_⟩
  · simp only [List.length_append, List.length_cons, List.length_nil]; go_simp
  · go_simp
  · simp [cells]
  · rcases ho.2 with hn | ⟨g', cap', cur, hv, hb', hgg, rest⟩
    · exact absurd hn.1 (by simp)
    · simp at hv
      obtain ⟨rfl, rfl⟩ := hv
      refine .inr ⟨g2, cap2, cur, by simp, hb', by rw [Below.heap_setCell _ _ _ _ hne2]; exact hgg, ?_⟩
      obtain ⟨r1, r2, r3, r4⟩ := rest
      refine ⟨by simpa using r1, r2, r3, ?_⟩
      simpa [cells] using r4
  · exact Wk.setCell (X := [b, g1]) (Wk.mono hk (by simp)) (.inl (by simp)) _

set_option maxRecDepth 100000 in
set_option maxHeartbeats 1000000 in
theorem wide (b g : Nat) (n : Int) (bs : List UInt8) (w : World) (h : Wr w b g bs) (hn : Ok n) (hlen : bs.length + 8 ≤ 140737488355328) :
    Calls Try.prog 74 #[.pointer (some ⟨b, 0, none⟩), .int .i64 n] w fun e w' => e = .returned (.tuple #[]) ∧ Wd w b g w' (bs ++ Bytes.wide n) := by
  obtain ⟨i0, hi, hz0, hz1, hz2⟩ := info_parts info_u8
  go_enter Try.func74, Try.ntmps74
  go_wp2
  go_loopw [4] (fun i wr => ∃ j : Nat, j ≤ 8 ∧ i = .int .i64 (56 - 8 * (j : Int)) ∧ Hid (Wd w b g wr (bs ++ be j (n / 256 ^ (8 - j))))) (fun i _ => (8 + intOf i).toNat)
  case atStart => exact ⟨0, by omega, rfl, by show Wd _ _ _ _ _; simpa [be] using Wd.refl h⟩
  case round =>
    obtain ⟨j, hj, rfl, hd⟩ := hrel
    obtain ⟨bj, hbj⟩ : ∃ bj, Hid (bs ++ be j (n / 256 ^ (8 - j)) = bj) := ⟨_, rfl⟩
    rw [hbj.out] at hd
    have hbl : bj.length = bs.length + j := by rw [← hbj.out]; simp [be_len]
    by_cases hlt : j < 8
    · obtain ⟨g1, hW, hg1, hk⟩ := hd.out
      have hW0 := Lib.hid hW
      have hblt := hW.lt
      have hglt := hW.ltg
      obtain ⟨hne, cap, hc, hf, ho⟩ := hW
      have hks := hk.size
      have hk2 := Lib.hid hk
      have hg2 := Lib.hid hg1
      obtain ⟨c, hcq⟩ : ∃ c : UInt8, Hid (UInt8.ofNat (n / 256 ^ (7 - j) % 256).toNat = c) := ⟨_, rfl⟩
      have hcw : IntKind.u8.wrap (n / 2 ^ (56 - 8 * (j : Int)).toNat) = c.toNat := by
        rw [show (56 - 8 * (j : Int)).toNat = 8 * (7 - j) by omega, Int.pow_mul, ← hcq.out, byte_nat]
        exact wrap_u8 _
      have hj0 : 0 ≤ 56 - 8 * (j : Int) := by omega
      have hblen : bj.length + 1 ≤ 140737488355328 := by omega
      have HBL := Lib.hid hbl
      clear hk hg1 hbl
      go_wp2
      go_region_law ((refine step_append_lies _ rfl (.tmp 13) (.tmp 18) 27 rfl 0 5 i0 (.int .u8 0) 1 1 Try.underlying27 hi hz0 hz1 hz2 rfl (by decide) (.slice (some ⟨g1, 0, none⟩) bj.length cap) bj.length (cells bj) (by simp [Act.eval, Act.put]) (by exact ho.alloc _) ⟨wr.heap.size, 0, none⟩ 1 1 [.int .u8 c.toNat] (by simp [Act.eval, Act.put]) rfl (by exact news1 wr _ _) (by simp [Value.oneCell']) (by decide) (by unfold maxLen; omega) (by omega) (by omega) _ rfl ?_; intro g2 cap2 w2 hown2 hgrow2 hat2 hlt2; have K2 := Lib.hid (grown_step hgrow2); have hc2 := K2.out.cell hc (by simp; exact fun e => hne e.symm); have hf2 := (World.frozen?_of_block (a := ⟨b, 0, none⟩) (K2.out.block b hblt (by simp; exact fun e => hne e.symm))).trans hf; have H2 := Lib.hid hown2; have A2 := Lib.hid hat2; clear hgrow2 hown2 hat2))
      all_goals
        have hD := Lib.hid (Wd.step hk2.out hg2.out (wrote1 hW0.out K2.out H2.out A2.out))
        clear hc2 hf2 hc hf ho hcw H2 A2 K2 hlt2
        refine nameW (fun W => Hid (Wd w b g W (bj ++ [c]))) hD ?_
        intro W hD2
        go_wp2
        go_roundw
        case rel =>
          refine ⟨j + 1, by omega, by (congr 1; omega), ?_⟩
          rw [← hbj.out, List.append_assoc, ← hcq.out] at hD2
          have e : be (j + 1) (n / 256 ^ (8 - (j + 1))) = be j (n / 256 ^ (8 - j)) ++ [UInt8.ofNat (n / 256 ^ (7 - j) % 256).toNat] := by
            rw [be, show 8 - (j + 1) = 7 - j by omega, Int.ediv_ediv_of_nonneg (Int.le_of_lt (Int.pow_pos (by omega))), ← Int.pow_succ, show (7 - j).succ = 8 - j by omega]
          rw [e]
          exact hD2
        case measure => simp [intOf]; omega
    · obtain rfl : j = 8 := by omega
      have hD := hd.out
      rw [← hbj.out] at hD
      have hD2 := Lib.hid hD
      clear hD
      go_wp2
      go_end0
      exact ⟨rfl, by simpa [Bytes.wide] using hD2.out⟩

theorem wides_len (l : List Int) : (l.flatMap Bytes.wide).length = 8 * l.length := by
  induction l with
  | nil => rfl
  | cons a l ih => simp [ih, wide_len]; omega

set_option maxRecDepth 100000 in
set_option maxHeartbeats 1000000 in
theorem num (b g nb : Nat) (l : List Int) (bs : List UInt8) (w : World) (h : Wr w b g bs) (hl4 : l.length ≤ 6) (hok : ∀ i (h : i < l.length), Ok l[i]) (hlen : bs.length + 8 * l.length ≤ 140737488355328)
    (hnb : nb ≠ b ∧ nb ≠ g) (hel : ∀ i (h : i < l.length), w.cell? ⟨nb, i, none⟩ = some (.int .i64 l[i])) :
    Calls Try.prog 33 #[.pointer (some ⟨b, 0, none⟩), .slice (some ⟨nb, 0, none⟩) l.length l.length] w fun e w' => e = .returned (.tuple #[]) ∧ Wd w b g w' (bs ++ l.flatMap Bytes.wide) := by
  have hX : nb ∉ [b, g] := by simp; exact hnb
  go_enter Try.func33, Try.ntmps33
  go_wp2
  go_loopw [8] (fun i wr => ∃ k : Nat, k ≤ l.length ∧ i = .int .i64 k ∧ Hid (Wd w b g wr (bs ++ (l.take k).flatMap Bytes.wide))) (fun i _ => l.length - (intOf i).toNat)
  case atStart => exact ⟨0, by omega, rfl, by show Wd _ _ _ _ _; simpa using Wd.refl h⟩
  case round =>
    obtain ⟨k, hk, rfl, hd⟩ := hrel
    have hbl : (bs ++ (l.take k).flatMap Bytes.wide).length = bs.length + 8 * k := by
      rw [List.length_append, wides_len, List.length_take, Nat.min_eq_left hk]
    obtain ⟨bk, hbk⟩ : ∃ bk, Hid (bs ++ (l.take k).flatMap Bytes.wide = bk) := ⟨_, rfl⟩
    rw [hbk.out] at hd hbl
    by_cases hlt : k < l.length
    · obtain ⟨g1, hW, hg1, hkp⟩ := hd.out
      have hst := Lib.hid (List.take_succ_eq_append_getElem hlt)
      have ok1 := hok k hlt
      have g0 := hel k hlt
      obtain ⟨x, hx⟩ := HierW.at_of hlt
      rw [hx.out] at g0 ok1
      rw [hx.out] at hst
      have g1' := hkp.cell g0 hX
      have H1 := Lib.hid hW
      have H2 := Lib.hid hg1
      have H3 := Lib.hid hkp
      have h8 : bk.length + 8 ≤ 140737488355328 := by omega
      have HB := Lib.hid hbl
      clear hbl g0 hW hg1 hkp hel hok
      go_wp2_with (go_at_call 74; refine (wide b g1 x bk _ H1.out ok1 h8).mono ?_; rintro e w1 ⟨rfl, hD⟩; have hD2 := Lib.hid (Wd.step H3.out H2.out hD); clear hD)
      go_roundw
      case rel =>
        refine ⟨k + 1, by omega, by go_num, ?_⟩
        rw [hst.out, List.flatMap_append, ← List.append_assoc, hbk.out]
        simpa using hD2
      case measure => simp [intOf]; omega
    · have hst := Lib.hid (List.take_of_length_le (l := l) (i := k) (by omega))
      rw [← hbk.out, hst.out] at hd
      clear hel hok hbl
      go_wp2
      go_end0
      exact ⟨rfl, hd.out⟩
end Wire
end Go.Proofs.Ytncmhenfgbcihab
