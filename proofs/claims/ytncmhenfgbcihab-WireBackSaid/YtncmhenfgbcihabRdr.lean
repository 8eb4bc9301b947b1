/- Reading bytes: the reader, as a world holds it; wide and num. -/
import Derived.Test.YtncmhenfgbcihabWrL
namespace Go.Proofs.Ytncmhenfgbcihab
open Go.RowKit
set_option linter.unusedSimpArgs false
set_option linter.unusedVariables false
namespace Wire
open Num Rd D Bytes HierW

def EByte (w : World) (_B b o : Nat) (c : UInt8) : Prop := w.cell? ⟨b, o, none⟩ = some (.int .u8 c.toNat)
theorem mByte : Mono EByte := fun w w' B B' b o x hb _ hlt h => by
  unfold EByte at *; rw [hb.cell (p := ⟨b, o, none⟩) hlt]; exact h

/-- the reader at block b: what is left to read -/
def Rdr (w : World) (B b : Nat) (bs : List UInt8) : Prop :=
  B ≤ b ∧ ∃ v, w.cell? ⟨b, 0, none⟩ = some v ∧ w.frozen? ⟨b, 0, none⟩ = false ∧ Sl 1 EByte w B v bs
theorem Rdr.lt {w : World} {B b : Nat} {bs : List UInt8} (h : Rdr w B b bs) : b < w.heap.size := by
  obtain ⟨_, v, h1, _⟩ := h; exact lt_cell' h1
theorem Rdr.next {w w' : World} {B b : Nat} {bs : List UInt8} (h : Rdr w B b bs) {X : List Nat} (hk : Wk X w w') (hX : ∀ x ∈ X, b < x) : Rdr w' B b bs := by
  have h1 := h.lt
  obtain ⟨hB, v, hc, hf, hs⟩ := h
  have hb : b ∉ X := fun h => by have := hX b h; omega
  exact ⟨hB, v, hk.cell hc hb, (World.frozen?_of_block (a := ⟨b, 0, none⟩) (hk.block b h1 hb)).trans hf, hs.mono mByte (hk.below (by omega) (fun x hx => by have := hX x hx; omega)) (Nat.le_refl _)⟩
theorem Rdr.alloc {w : World} {B b : Nat} {bs : List UInt8} (h : Rdr w B b bs) (o : Obj) : Rdr (w.alloc o) B b bs := h.next (X := []) ((Wk.refl _ _).alloc o) (by simp)

theorem Rdr.set {w : World} {B b : Nat} {bs : List UInt8} (h : Rdr w B b bs) (v' : Value) (bs' : List UInt8) (hs : Sl 1 EByte w B v' bs') : Rdr (w.setCell ⟨b, 0, none⟩ v') B b bs' := by
  obtain ⟨hB, v, hc, hf, _⟩ := h
  exact ⟨hB, v', by go_simp, by go_simp, hs.mono mByte (((Wk.refl [b] w).setCell (.inl (by simp)) v').below (by have := lt_cell' hc; omega) (by simp; exact hB)) (Nat.le_refl _)⟩

/-- what is thrown where bytes are short -/
def shortE : Ending := .panicked [{ v := .iface 78 (.agg #[]), recovered := false }]

/-- what a method of the reader leaves -/
def Rp {α : Type} (p : Option (α × List UInt8)) (R : α → Value → World → Prop) (B b : Nat) (w : World) (e : Ending) (w' : World) : Prop :=
  Wk [b] w w' ∧ (match p with
    | none => e = shortE
    | some (x, rest) => ∃ v, e = .returned v ∧ R x v w' ∧ Rdr w' B b rest)

def RInt (x : Int) (v : Value) (_ : World) : Prop := v = .int .i64 x

theorem toNat_ofInt64 (n : Int) : ((BitVec.ofInt 64 n).toNat : Int) = n % 18446744073709551616 := by
  have := BitVec.toNat_ofInt (n := 64) n
  rw [this]
  have h := Int.emod_nonneg n (show (18446744073709551616 : Int) ≠ 0 by decide)
  show ((n % (2 ^ 64 : Nat)).toNat : Int) = _
  rw [show ((2 ^ 64 : Nat) : Int) = 18446744073709551616 by decide]
  omega
theorem or_byte (x : Int) (c : Nat) (hc : c < 256) : bits .or .i64 (wrap64 (x * 256)) c = wrap64 (x * 256 + c) := by
  have h0 : bits .or .i64 (wrap64 (x * 256)) c = IntKind.i64.wrap (((BitVec.ofInt 64 (wrap64 (x * 256))).toNat ||| (BitVec.ofInt 64 (c : Int)).toNat : Nat) : Int) := rfl
  have h1 := toNat_ofInt64 (wrap64 (x * 256))
  have h2 := toNat_ofInt64 (c : Int)
  have e1 : (BitVec.ofInt 64 (wrap64 (x * 256))).toNat = 256 * ((x % 72057594037927936).toNat) := by
    rw [Bytes.wrap_emod] at h1; omega
  have e2 : (BitVec.ofInt 64 (c : Int)).toNat = c := by omega
  rw [h0, e1, e2]
  have e3 : 256 * ((x % 72057594037927936).toNat) ||| c = 256 * ((x % 72057594037927936).toNat) + c := by
    have := Nat.two_pow_add_eq_or_of_lt (i := 8) (b := c) (by simpa using hc) ((x % 72057594037927936).toNat)
    rw [show (2:Nat)^8 = 256 by rfl] at this
    exact this.symm
  rw [e3]
  show IntKind.i64.wrap _ = _
  rw [Num.wrap_i64]
  unfold wrap64
  omega

theorem take_byte {bs : List UInt8} {k : Nat} {c : UInt8} (h : bs[k]? = some c) : val (bs.take (k + 1)) = wrap64 (val (bs.take k) * 256 + c.toNat) := by
  obtain ⟨hk, rfl⟩ := List.getElem?_eq_some_iff.1 h
  rw [List.take_succ_eq_append_getElem hk, val_snoc]

set_option maxRecDepth 100000 in
set_option maxHeartbeats 2000000 in
theorem wideP (B b : Nat) (bs : List UInt8) (w : World) (h : Rdr w B b bs) :
    Calls Try.prog 139 #[.pointer (some ⟨b, 0, none⟩)] w (Rp (rd bs) RInt B b w) := by
  have hR := Lib.hid h
  have hlt := h.lt
  obtain ⟨hB, v, hc, hf, a, cap, rfl, hlc, hcc, hel⟩ := h
  by_cases hs : bs.length < 8
  · have hI : (bs.length : Int) < 8 := by omega
    have hrd : Hid (rd bs = none) := by show _ = _; unfold rd; rw [if_pos hs]
    clear hel
    go_enter Try.func139, Try.ntmps139
    go_wp2
    refine And.intro rfl ?_
    show Rp (rd bs) RInt B b w shortE w
    unfold Rp
    rw [hrd.out]
    exact ⟨Wk.refl _ _, rfl⟩
  · have hI : ¬ (bs.length : Int) < 8 := by omega
    have hI2 : (8 : Int) ≤ bs.length := by omega
    have hI3 : (8 : Int) ≤ cap := by omega
    obtain ⟨g, o, rfl, hg, _⟩ := hel 0 (by omega)
    have hbyte : ∀ i, i < bs.length → ∃ c : UInt8, Hid (bs[i]? = some c) ∧ w.cell? ⟨g, o + i, none⟩ = some (.int .u8 c.toNat) := fun i hi => by
      obtain ⟨g', o', hgo, _, he⟩ := hel i hi
      injection hgo with hgo; injection hgo with h1 h2
      subst h1; subst h2
      exact ⟨bs[i], by show _ = _; simp [hi], by rw [Nat.mul_one] at he; exact he⟩
    have hrd : Hid (rd bs = some (val (bs.take 8), bs.drop 8)) := by show _ = _; unfold rd; rw [if_neg hs]
    clear hel
    go_enter Try.func139, Try.ntmps139
    go_wp2
    go_loopw [3, 20] (fun n i wr => ∃ k : Nat, k ≤ 8 ∧ i = .int .i64 k ∧ n = .int .i64 (val (bs.take k)) ∧ wr = w) (fun _ i _ => 8 - (intOf i).toNat)
    case atStart => exact ⟨0, by omega, rfl, by simp [val, natv, wrap64], rfl⟩
    case round =>
      obtain ⟨k, hk, rfl, rfl, rfl⟩ := hrel
      by_cases hlt2 : k < 8
      · obtain ⟨c, hcq, hcell⟩ := hbyte k (by omega)
        have hst := Lib.hid (take_byte hcq.out)
        have hor := or_byte (val (bs.take k)) c.toNat c.toNat_lt
        have hlg := lt_cell' hcell
        clear hbyte
        go_wp2
        refine ⟨⟨k + 1, by omega, by go_num, ?_, trivial⟩, by simp [intOf]; omega⟩
        rw [hst.out, wrap64_id (n := (c.toNat : Int)) (by have := c.toNat_lt; unfold Ok; omega), hor]
      · obtain rfl : k = 8 := by omega
        have hR2 := hR
        have h8 : ¬ (((8 : Nat) : Int) < 8) := by omega
        by_cases hcap : cap = 8
        · subst hcap
          go_wp2
          go_ret
          show Rp (rd bs) RInt B b wr _ _
          unfold Rp
          rw [hrd.out]
          exact ⟨(Wk.refl _ _).setCell (.inl (by simp)) _, _, rfl, rfl, hR2.out.set _ _ ⟨_, 0, by rw [List.length_drop, show bs.length - 8 = 0 by omega], by simp; omega, by omega, fun i hi => absurd hi (by simp; omega)⟩⟩
        · go_wp2
          go_ret
          show Rp (rd bs) RInt B b wr _ _
          unfold Rp
          rw [hrd.out]
          refine ⟨(Wk.refl _ _).setCell (.inl (by simp)) _, _, rfl, rfl, hR2.out.set _ _ ⟨_, cap - 8, by rw [List.length_drop], by simp; omega, by omega, fun i hi => ?_⟩⟩
          have hi' : 8 + i < bs.length := by simp at hi; omega
          obtain ⟨c, hcq, hcell⟩ := hbyte (8 + i) hi'
          obtain ⟨_, hce⟩ := List.getElem?_eq_some_iff.1 hcq.out
          refine ⟨g, o + 8, rfl, hg, ?_⟩
          unfold EByte
          rw [Nat.mul_one, List.getElem_drop, hce, Nat.add_assoc]; exact hcell
end Wire
end Go.Proofs.Ytncmhenfgbcihab
