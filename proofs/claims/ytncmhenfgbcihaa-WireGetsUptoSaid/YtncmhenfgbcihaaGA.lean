/- Reading bytes: the reader, as a world holds it; wide and num. -/
import Derived.Test.YtncmhenfgbcihaaWrL
import Derived.Deep.AppendLies
import Derived.Test.YtncmhenfgbcihaaBytesT
import Derived.Test.YtncmhenfgbcihaaDrawn
import Derived.Deep.RegionHeld3
/- Reading bytes: the reader, as a world holds it; wide and num. -/
namespace Go.Proofs.Ytncmhenfgbcihaa
open Go.RowKit
set_option linter.unusedSimpArgs false
set_option linter.unusedVariables false
namespace Wire
open Num Rd D Bytes HierW

def EByte (w : World) (_B b o : Nat) (c : UInt8) : Prop := w.cell? ⟨b, o, none⟩ = some (.int .u8 c.toNat)
theorem mByte : Mono EByte := fun w w' B B' b o x hb _ hlt h => by
  unfold EByte at *; rw [hb.cell (p := ⟨b, o, none⟩) hlt]; exact h

/-- the reader at block b: what is left to read -/
def Rdr (w : World) (B b : Nat) (bs : List UInt8) : Prop :=
  B ≤ b ∧ ∃ v, w.cell? ⟨b, 0, none⟩ = some v ∧ w.frozen? ⟨b, 0, none⟩ = false ∧ Sl 1 EByte w B v bs
theorem Rdr.lt {w : World} {B b : Nat} {bs : List UInt8} (h : Rdr w B b bs) : b < w.heap.size := by
  obtain ⟨_, v, h1, _⟩ := h; exact lt_cell' h1
theorem Rdr.next {w w' : World} {B b : Nat} {bs : List UInt8} (h : Rdr w B b bs) {X : List Nat} (hk : Wk X w w') (hX : ∀ x ∈ X, b < x) : Rdr w' B b bs := by
  have h1 := h.lt
  obtain ⟨hB, v, hc, hf, hs⟩ := h
  have hb : b ∉ X := fun h => by have := hX b h; omega
  exact ⟨hB, v, hk.cell hc hb, (World.frozen?_of_block (a := ⟨b, 0, none⟩) (hk.block b h1 hb)).trans hf, hs.mono mByte (hk.below (by omega) (fun x hx => by have := hX x hx; omega)) (Nat.le_refl _)⟩
theorem Rdr.alloc {w : World} {B b : Nat} {bs : List UInt8} (h : Rdr w B b bs) (o : Obj) : Rdr (w.alloc o) B b bs := h.next (X := []) ((Wk.refl _ _).alloc o) (by simp)

theorem Rdr.set {w : World} {B b : Nat} {bs : List UInt8} (h : Rdr w B b bs) (v' : Value) (bs' : List UInt8) (hs : Sl 1 EByte w B v' bs') : Rdr (w.setCell ⟨b, 0, none⟩ v') B b bs' := by
  obtain ⟨hB, v, hc, hf, _⟩ := h
  exact ⟨hB, v', by go_simp, by go_simp, hs.mono mByte (((Wk.refl [b] w).setCell (.inl (by simp)) v').below (by have := lt_cell' hc; omega) (by simp; exact hB)) (Nat.le_refl _)⟩

/-- what is thrown where bytes are short -/
def shortE : Ending := .panicked [{ v := .iface 94 (.agg #[]), recovered := false }]

/-- what a method of the reader leaves -/
def Rp {α : Type} (p : Option (α × List UInt8)) (R : α → Value → World → Prop) (B b : Nat) (w : World) (e : Ending) (w' : World) : Prop :=
  Wk [b] w w' ∧ (match p with
    | none => e = shortE
    | some (x, rest) => ∃ v, e = .returned v ∧ R x v w' ∧ Rdr w' B b rest)

def RInt (x : Int) (v : Value) (_ : World) : Prop := v = .int .i64 x

theorem toNat_ofInt64 (n : Int) : ((BitVec.ofInt 64 n).toNat : Int) = n % 18446744073709551616 := by
  have := BitVec.toNat_ofInt (n := 64) n
  rw [this]
  have h := Int.emod_nonneg n (show (18446744073709551616 : Int) ≠ 0 by decide)
  show ((n % (2 ^ 64 : Nat)).toNat : Int) = _
  rw [show ((2 ^ 64 : Nat) : Int) = 18446744073709551616 by decide]
  omega
theorem or_byte (x : Int) (c : Nat) (hc : c < 256) : bits .or .i64 (wrap64 (x * 256)) c = wrap64 (x * 256 + c) := by
  have h0 : bits .or .i64 (wrap64 (x * 256)) c = IntKind.i64.wrap (((BitVec.ofInt 64 (wrap64 (x * 256))).toNat ||| (BitVec.ofInt 64 (c : Int)).toNat : Nat) : Int) := rfl
  have h1 := toNat_ofInt64 (wrap64 (x * 256))
  have h2 := toNat_ofInt64 (c : Int)
  have e1 : (BitVec.ofInt 64 (wrap64 (x * 256))).toNat = 256 * ((x % 72057594037927936).toNat) := by
    rw [Bytes.wrap_emod] at h1; omega
  have e2 : (BitVec.ofInt 64 (c : Int)).toNat = c := by omega
  rw [h0, e1, e2]
  have e3 : 256 * ((x % 72057594037927936).toNat) ||| c = 256 * ((x % 72057594037927936).toNat) + c := by
    have := Nat.two_pow_add_eq_or_of_lt (i := 8) (b := c) (by simpa using hc) ((x % 72057594037927936).toNat)
    rw [show (2:Nat)^8 = 256 by rfl] at this
    exact this.symm
  rw [e3]
  show IntKind.i64.wrap _ = _
  rw [Num.wrap_i64]
  unfold wrap64
  omega

theorem take_byte {bs : List UInt8} {k : Nat} {c : UInt8} (h : bs[k]? = some c) : val (bs.take (k + 1)) = wrap64 (val (bs.take k) * 256 + c.toNat) := by
  obtain ⟨hk, rfl⟩ := List.getElem?_eq_some_iff.1 h
  rw [List.take_succ_eq_append_getElem hk, val_snoc]

set_option maxRecDepth 100000 in
set_option maxHeartbeats 2000000 in
theorem wideP (B b : Nat) (bs : List UInt8) (w : World) (h : Rdr w B b bs) :
    Calls Try.prog 108 #[.pointer (some ⟨b, 0, none⟩)] w (Rp (rd bs) RInt B b w) := by
  have hR := Lib.hid h
  have hlt := h.lt
  obtain ⟨hB, v, hc, hf, a, cap, rfl, hlc, hcc, hel⟩ := h
  by_cases hs : bs.length < 8
  · have hI : (bs.length : Int) < 8 := by omega
    have hrd : Hid (rd bs = none) := by show _ = _; unfold rd; rw [if_pos hs]
    clear hel
    go_enter Try.func108, Try.ntmps108
    go_wp2
    refine And.intro rfl ?_
    show Rp (rd bs) RInt B b w shortE w
    unfold Rp
    rw [hrd.out]
    exact ⟨Wk.refl _ _, rfl⟩
  · have hI : ¬ (bs.length : Int) < 8 := by omega
    have hI2 : (8 : Int) ≤ bs.length := by omega
    have hI3 : (8 : Int) ≤ cap := by omega
    obtain ⟨g, o, rfl, hg, _⟩ := hel 0 (by omega)
    have hbyte : ∀ i, i < bs.length → ∃ c : UInt8, Hid (bs[i]? = some c) ∧ w.cell? ⟨g, o + i, none⟩ = some (.int .u8 c.toNat) := fun i hi => by
      obtain ⟨g', o', hgo, _, he⟩ := hel i hi
      injection hgo with hgo; injection hgo with h1 h2
      subst h1; subst h2
      exact ⟨bs[i], by show _ = _; simp [hi], by rw [Nat.mul_one] at he; exact he⟩
    have hrd : Hid (rd bs = some (val (bs.take 8), bs.drop 8)) := by show _ = _; unfold rd; rw [if_neg hs]
    clear hel
    go_enter Try.func108, Try.ntmps108
    go_wp2
    go_loopw [3, 20] (fun n i wr => ∃ k : Nat, k ≤ 8 ∧ i = .int .i64 k ∧ n = .int .i64 (val (bs.take k)) ∧ wr = w) (fun _ i _ => 8 - (intOf i).toNat)
    case atStart => exact ⟨0, by omega, rfl, by simp [val, natv, wrap64], rfl⟩
    case round =>
      obtain ⟨k, hk, rfl, rfl, rfl⟩ := hrel
      by_cases hlt2 : k < 8
      · obtain ⟨c, hcq, hcell⟩ := hbyte k (by omega)
        have hst := Lib.hid (take_byte hcq.out)
        have hor := or_byte (val (bs.take k)) c.toNat c.toNat_lt
        have hlg := lt_cell' hcell
        clear hbyte
        go_wp2
        refine ⟨⟨k + 1, by omega, by go_num, ?_, trivial⟩, by simp [intOf]; omega⟩
        rw [hst.out, wrap64_id (n := (c.toNat : Int)) (by have := c.toNat_lt; unfold Ok; omega), hor]
      · obtain rfl : k = 8 := by omega
        have hR2 := hR
        have h8 : ¬ (((8 : Nat) : Int) < 8) := by omega
        by_cases hcap : cap = 8
        · subst hcap
          go_wp2
          go_ret
          show Rp (rd bs) RInt B b wr _ _
          unfold Rp
          rw [hrd.out]
          exact ⟨(Wk.refl _ _).setCell (.inl (by simp)) _, _, rfl, rfl, hR2.out.set _ _ ⟨_, 0, by rw [List.length_drop, show bs.length - 8 = 0 by omega], by simp; omega, by omega, fun i hi => absurd hi (by simp; omega)⟩⟩
        · go_wp2
          go_ret
          show Rp (rd bs) RInt B b wr _ _
          unfold Rp
          rw [hrd.out]
          refine ⟨(Wk.refl _ _).setCell (.inl (by simp)) _, _, rfl, rfl, hR2.out.set _ _ ⟨_, cap - 8, by rw [List.length_drop], by simp; omega, by omega, fun i hi => ?_⟩⟩
          have hi' : 8 + i < bs.length := by simp at hi; omega
          obtain ⟨c, hcq, hcell⟩ := hbyte (8 + i) hi'
          obtain ⟨_, hce⟩ := List.getElem?_eq_some_iff.1 hcq.out
          refine ⟨g, o + 8, rfl, hg, ?_⟩
          unfold EByte
          rw [Nat.mul_one, List.getElem_drop, hce, Nat.add_assoc]; exact hcell
end Wire
end Go.Proofs.Ytncmhenfgbcihaa

/- Reading bytes: what is made of them, as a world holds it; num and kind. -/
namespace Go.Proofs.Ytncmhenfgbcihaa
open Go.RowKit
set_option linter.unusedSimpArgs false
set_option linter.unusedVariables false
namespace Wire
open Num Rd D Bytes HierW

/-- one element's cells lie at a place -/
def At {α : Type} (V : World → (Nat → Prop) → List Value → α → Prop) (size : Nat) (w : World) (P : Nat → Prop) (g o : Nat) (x : α) : Prop :=
  ∃ cs, cs.length = size ∧ V w P cs x ∧ ∀ j u, cs[j]? = some u → w.cell? ⟨g, o + j, none⟩ = some u
/-- a slice, of blocks that P names -/
def SlV {α : Type} (V : World → (Nat → Prop) → List Value → α → Prop) (size : Nat) (w : World) (P : Nat → Prop) (v : Value) (l : List α) : Prop :=
  ∃ (a : Option Addr) (cap : Nat), v = .slice a l.length cap ∧ l.length ≤ cap ∧ cap ≤ 9223372036854775807 ∧
    ∀ i (h : i < l.length), ∃ g o, a = some ⟨g, o, none⟩ ∧ P g ∧ At V size w P g (o + i * size) l[i]

def VInt (_ : World) (_ : Nat → Prop) (cs : List Value) (x : Int) : Prop := cs = [.int .i64 x] ∧ Ok x
def VTy (_ : World) (_ : Nat → Prop) (cs : List Value) (x : Ty) : Prop := cs = [.int .i64 x.kind, .int .i64 x.cls] ∧ TyOk x
def VHd (_ : World) (_ : Nat → Prop) (cs : List Value) (x : Hd) : Prop := cs = [.int .i64 x.lo, .int .i64 x.hi, .int .i64 x.go, .int .i64 x.cls] ∧ HdOk x
def VCl (w : World) (P : Nat → Prop) (cs : List Value) (x : Cls) : Prop := ∃ v, cs = [.int .i64 x.sup, v] ∧ Ok x.sup ∧ SlV VTy 2 w P v x.fields
def VIn (w : World) (P : Nat → Prop) (cs : List Value) (x : Ins) : Prop := ∃ v, cs = [.int .i64 x.op, .int .i64 x.a, .int .i64 x.b, .int .i64 x.c, .int .i64 x.n, v] ∧ (Ok x.op ∧ Ok x.a ∧ Ok x.b ∧ Ok x.c ∧ Ok x.n) ∧ SlV VInt 1 w P v x.args
def VMt (w : World) (P : Nat → Prop) (cs : List Value) (x : Me) : Prop := ∃ vp vc vh, cs = [vp, .int .i64 x.ret.kind, .int .i64 x.ret.cls, .int .i64 x.stack, .int .i64 x.locals, .int .i64 x.regs, vc, vh] ∧
  (Ok x.ret.kind ∧ Ok x.ret.cls ∧ Ok x.stack ∧ Ok x.locals ∧ Ok x.regs) ∧ SlV VTy 2 w P vp x.params ∧ SlV VIn 6 w P vc x.code ∧ SlV VHd 4 w P vh x.handlers

/-- what is so stays so where the named blocks do -/
def Stays {α : Type} (V : World → (Nat → Prop) → List Value → α → Prop) : Prop :=
  ∀ w w' (P P' : Nat → Prop) cs x, (∀ k, P k → P' k ∧ w'.heap[k]? = w.heap[k]?) → V w P cs x → V w' P' cs x
theorem SlV.stays {α : Type} {V : World → (Nat → Prop) → List Value → α → Prop} (hV : Stays V) {size : Nat} {w w' : World} {P P' : Nat → Prop} {v : Value} {l : List α} (hk : ∀ k, P k → P' k ∧ w'.heap[k]? = w.heap[k]?) (h : SlV V size w P v l) : SlV V size w' P' v l := by
  obtain ⟨a, cap, h1, h2, h3, h4⟩ := h
  refine ⟨a, cap, h1, h2, h3, fun i hi => ?_⟩
  obtain ⟨g, o, ha, hP, cs, hl, hv, hc⟩ := h4 i hi
  refine ⟨g, o, ha, (hk g hP).1, cs, hl, hV _ _ _ _ _ _ hk hv, fun j u hu => ?_⟩
  exact (World.cell?_of_block (a := ⟨g, o + i * size + j, none⟩) (hk g hP).2).trans (hc j u hu)
theorem sInt : Stays VInt := fun _ _ _ _ _ _ _ h => h
theorem sTy : Stays VTy := fun _ _ _ _ _ _ _ h => h
theorem sHd : Stays VHd := fun _ _ _ _ _ _ _ h => h
theorem sCl : Stays VCl := fun _ _ _ _ _ _ hk ⟨v, h1, h2, h3⟩ => ⟨v, h1, h2, h3.stays sTy hk⟩
theorem sIn : Stays VIn := fun _ _ _ _ _ _ hk ⟨v, h1, h2, h3⟩ => ⟨v, h1, h2, h3.stays sInt hk⟩
theorem sMt : Stays VMt := fun _ _ _ _ _ _ hk ⟨vp, vc, vh, h1, h2, h3, h4, h5⟩ => ⟨vp, vc, vh, h1, h2, h3.stays sTy hk, h4.stays sIn hk, h5.stays sHd hk⟩

/-- .. and is what was said of data -/
theorem SlV.sl {α : Type} {V : World → (Nat → Prop) → List Value → α → Prop} {E : World → Nat → Nat → Nat → α → Prop} {size : Nat} {w : World} {P : Nat → Prop} {B : Nat} (hE : ∀ g o x, At V size w P g o x → E w B g o x) (hP : ∀ k, P k → k < B) {v : Value} {l : List α} (h : SlV V size w P v l) : Sl size E w B v l := by
  obtain ⟨a, cap, h1, h2, h3, h4⟩ := h
  refine ⟨a, cap, h1, h2, h3, fun i hi => ?_⟩
  obtain ⟨g, o, ha, hg, he⟩ := h4 i hi
  exact ⟨g, o, ha, hP g hg, hE _ _ _ he⟩
section
variable {w : World} {P : Nat → Prop} {B : Nat}
theorem eInt (g o : Nat) (x : Int) (h : At VInt 1 w P g o x) : EInt w B g o x := by
  obtain ⟨cs, _, ⟨rfl, hok⟩, hc⟩ := h; exact ⟨hc 0 _ rfl, hok⟩
theorem eTy (g o : Nat) (x : Ty) (h : At VTy 2 w P g o x) : ETy w B g o x := by
  obtain ⟨cs, _, ⟨rfl, hok⟩, hc⟩ := h; exact ⟨hc 0 _ rfl, hc 1 _ rfl, hok.1, hok.2⟩
theorem eHd (g o : Nat) (x : Hd) (h : At VHd 4 w P g o x) : EHd w B g o x := by
  obtain ⟨cs, _, ⟨rfl, hok⟩, hc⟩ := h; exact ⟨hc 0 _ rfl, hc 1 _ rfl, hc 2 _ rfl, hc 3 _ rfl, hok⟩
theorem eCl (hP : ∀ k, P k → k < B) (g o : Nat) (x : Cls) (h : At VCl 2 w P g o x) : ECls w B g o x := by
  obtain ⟨cs, _, ⟨v, rfl, hok, hs⟩, hc⟩ := h; exact ⟨hc 0 _ rfl, hok, v, hc 1 _ rfl, hs.sl eTy hP⟩
theorem eIn (hP : ∀ k, P k → k < B) (g o : Nat) (x : Ins) (h : At VIn 6 w P g o x) : EIns w B g o x := by
  obtain ⟨cs, _, ⟨v, rfl, hok, hs⟩, hc⟩ := h; exact ⟨hc 0 _ rfl, hc 1 _ rfl, hc 2 _ rfl, hc 3 _ rfl, hc 4 _ rfl, hok, v, hc 5 _ rfl, hs.sl eInt hP⟩
theorem eMt (hP : ∀ k, P k → k < B) (g o : Nat) (x : Me) (h : At VMt 8 w P g o x) : EMe w B g o x := by
  obtain ⟨cs, _, ⟨vp, vc, vh, rfl, hok, h1, h2, h3⟩, hc⟩ := h
  exact ⟨vp, vc, vh, hc 0 _ rfl, hc 1 _ rfl, hc 2 _ rfl, hc 3 _ rfl, hc 4 _ rfl, hc 5 _ rfl, hc 6 _ rfl, hc 7 _ rfl, hok, h1.sl eTy hP, h2.sl (eIn hP) hP, h3.sl eHd hP⟩
end

/-- the elements' cells, one behind another -/
def Row {α : Type} (V : World → (Nat → Prop) → List Value → α → Prop) (size : Nat) (w : World) (P : Nat → Prop) (xs : List Value) (l : List α) : Prop :=
  xs.length = l.length * size ∧ ∀ i (h : i < l.length), V w P ((xs.drop (i * size)).take size) l[i]
theorem Row.nil {α : Type} (V : World → (Nat → Prop) → List Value → α → Prop) (size : Nat) (w : World) (P : Nat → Prop) : Row V size w P [] [] := ⟨by simp, fun i h => absurd h (by simp)⟩
theorem Row.snoc {α : Type} {V : World → (Nat → Prop) → List Value → α → Prop} {size : Nat} {w : World} {P : Nat → Prop} {xs : List Value} {l : List α} (h : Row V size w P xs l) {cs : List Value} {x : α} (hl : cs.length = size) (hx : V w P cs x) : Row V size w P (xs ++ cs) (l ++ [x]) := by
  refine ⟨by rw [List.length_append, h.1, hl, List.length_append, Nat.add_mul]; simp, fun i hi => ?_⟩
  by_cases hlt : i < l.length
  · rw [List.getElem_append_left hlt, List.drop_append_of_le_length (by rw [h.1]; exact Nat.mul_le_mul_right _ (by omega)), List.take_append_of_le_length]
    · exact h.2 i hlt
    · rw [List.length_drop, h.1]
      have : (i + 1) * size ≤ l.length * size := Nat.mul_le_mul_right _ (by omega)
      rw [Nat.add_mul] at this; omega
  · have hi' : i = l.length := by simp at hi; omega
    subst hi'
    rw [show l.length * size = xs.length from h.1.symm, List.drop_left, List.take_of_length_le (by omega)]
    simpa using hx
theorem Row.stays {α : Type} {V : World → (Nat → Prop) → List Value → α → Prop} (hV : Stays V) {size : Nat} {w w' : World} {P P' : Nat → Prop} {xs : List Value} {l : List α} (hk : ∀ k, P k → P' k ∧ w'.heap[k]? = w.heap[k]?) (h : Row V size w P xs l) : Row V size w' P' xs l :=
  ⟨h.1, fun i hi => hV _ _ _ _ _ _ hk (h.2 i hi)⟩
/-- a row that is owned is such a slice -/
theorem Row.sl {α : Type} {V : World → (Nat → Prop) → List Value → α → Prop} (hV : Stays V) {size : Nat} {w : World} {P P' : Nat → Prop} {T : TypeId} {v : Value} {xs : List Value} {l : List α} (h : Row V size w P xs l) {base : Nat} (ho : w.ownsRow base T size v l.length xs) (hlen : l.length ≤ 9223372036854775807) (hP : ∀ k, P k → P' k) (hg : ∀ g, v.ownBlock = some g → P' g) : SlV V size w P' v l := by
  have hcell : ∀ g, v.ownBlock = some g → ∀ j u, xs[j]? = some u → w.cell? ((⟨g, 0, none⟩ : Addr).add j) = some u := fun g hg => World.ownsRow.cells ho hg
  rcases ho.2 with ⟨rfl, h0⟩ | ⟨g, cap, cur, rfl, _, _, hc1, hc2, _⟩
  · have : l = [] := List.eq_nil_of_length_eq_zero h0
    subst this
    exact ⟨none, 0, rfl, Nat.le_refl _, by omega, fun i h => absurd h (by simp)⟩
  · refine ⟨_, cap, rfl, hc1, by have : maxLen = 9223372036854775807 := rfl; omega, fun i hi => ⟨g, 0, rfl, hg g rfl, (xs.drop (i * size)).take size, ?_, hV _ _ _ _ _ _ (fun k hk => ⟨hP k hk, rfl⟩) (h.2 i hi), fun j u hu => ?_⟩⟩
    · have : (i + 1) * size ≤ l.length * size := Nat.mul_le_mul_right _ (by omega)
      rw [Nat.add_mul] at this
      rw [List.length_take, List.length_drop, h.1]; omega
    · rw [List.getElem?_take] at hu
      split at hu
      · rw [List.getElem?_drop] at hu
        have := hcell g rfl (i * size + j) u hu
        have hadd : (⟨g, 0, none⟩ : Addr).add (i * size + j) = ⟨g, i * size + j, none⟩ := by unfold Addr.add; split <;> simp_all
        rw [hadd] at this
        rw [Nat.zero_add]; exact this
      · cases hu

/-- the blocks between two marks -/
def Nw (lo hi k : Nat) : Prop := lo ≤ k ∧ k < hi
/-- the blocks from a mark on, but that of a slice's own -/
def Rw (lo : Nat) (w : World) (v : Value) (k : Nat) : Prop := lo ≤ k ∧ k < w.heap.size ∧ v.ownBlock ≠ some k

theorem _root_.Go.Proofs.Ytncmhenfgbcihaa.Wk.frz {X : List Nat} {w w' : World} (h : Wk X w w') {c o : Nat} (hf : w.frozen? ⟨c, o, none⟩ = false) (hc : c < w.heap.size) (h2 : c ∉ X) : w'.frozen? ⟨c, o, none⟩ = false := (World.frozen?_of_block (a := ⟨c, o, none⟩) (h.block c hc h2)).trans hf
/-- a struct that was read; a list that was read -/
def RS {α : Type} (V : World → (Nat → Prop) → List Value → α → Prop) (lo : Nat) (x : α) (v : Value) (w : World) : Prop := ∃ cs, v = .agg cs.toArray ∧ V w (Nw lo w.heap.size) cs x
def RL {α : Type} (V : World → (Nat → Prop) → List Value → α → Prop) (size lo : Nat) (l : List α) (v : Value) (w : World) : Prop := SlV V size w (Nw lo w.heap.size) v l

/-- what is still to be read of a list -/
def Cont {α : Type} (p : P α) (m : Nat) (acc : List α) (bs : List UInt8) : Option (List α × List UInt8) := match rep p m bs with
  | none => none
  | some (l, r) => some (acc ++ l, r)
theorem cont_none {α : Type} {p : P α} {m : Nat} {acc : List α} {bs : List UInt8} (h : p bs = none) : Cont p (m + 1) acc bs = none := by
  unfold Cont; rw [rep, bind_none h]
theorem cont_some {α : Type} {p : P α} {m : Nat} {acc : List α} {bs r : List UInt8} {x : α} (h : p bs = some (x, r)) : Cont p (m + 1) acc bs = Cont p m (acc ++ [x]) r := by
  unfold Cont; rw [rep, bind_of h]
  cases hr : rep p m r with
  | none => rw [bind_none hr]
  | some y => obtain ⟨l, r'⟩ := y; rw [bind_of hr]; simp [ret]
theorem cont_zero {α : Type} (p : P α) (acc : List α) (bs : List UInt8) : Cont p 0 acc bs = some (acc, bs) := by simp [Cont, rep, ret]
theorem cont_start {α : Type} {p : P α} {bs rest : List UInt8} {n : Int} (h : rd bs = some (n, rest)) (hn : ¬ n < 0) : lstP p bs = Cont p n.toNat [] rest := by
  rw [lstP, bind_of h, if_neg hn]; unfold Cont
  cases rep p n.toNat rest with
  | none => rfl
  | some y => rfl
theorem lst_neg {α : Type} {p : P α} {bs rest : List UInt8} {n : Int} (h : rd bs = some (n, rest)) (hn : n < 0) : lstP p bs = none := by
  rw [lstP, bind_of h, if_pos hn]
theorem lst_none {α : Type} {p : P α} {bs : List UInt8} (h : rd bs = none) : lstP p bs = none := bind_none h
/-- a reader that takes eight bytes at least -/
def Eats {α : Type} (p : P α) : Prop := ∀ bs x r, p bs = some (x, r) → r.length + 8 ≤ bs.length
theorem rep_eats {α : Type} {p : P α} (hp : Eats p) : ∀ (n : Nat) bs l r, rep p n bs = some (l, r) → r.length + 8 * n ≤ bs.length := by
  intro n
  induction n with
  | zero => intro bs l r h; simp only [rep, ret] at h; injection h with h; injection h with _ h; subst h; omega
  | succ n ih =>
    intro bs l r h
    simp only [rep] at h
    obtain ⟨x, r1, h1, h2⟩ := Bytes.bind_some h
    obtain ⟨l2, r2, h3, h4⟩ := Bytes.bind_some h2
    simp only [ret] at h4
    injection h4 with h4; injection h4 with _ h4; subst h4
    have := hp _ _ _ h1
    have := ih _ _ _ h3
    omega
theorem lst_big {α : Type} {p : P α} (hp : Eats p) {bs rest : List UInt8} {n : Int} (h : rd bs = some (n, rest)) (hn : (rest.length : Int) / 8 < n) : lstP p bs = none := by
  rw [lstP, bind_of h, if_neg (by omega)]
  cases hr : rep p n.toNat rest with
  | none => rfl
  | some y =>
    obtain ⟨l, r⟩ := y
    have := rep_eats hp _ _ _ _ hr
    omega
theorem eats_rd : Eats rd := fun bs x r h => by
  obtain ⟨e, _⟩ := rd_wrote _ _ _ h
  rw [e, List.length_append, wide_len]; omega
theorem eats_of {α : Type} {p : P α} {e : α → List UInt8} {ok : α → Prop} (h : Wrote p e ok) (he : ∀ x, 8 ≤ (e x).length) : Eats p := fun bs x r hx => by
  obtain ⟨e1, _⟩ := h _ _ _ hx
  rw [e1, List.length_append]; have := he x; omega
theorem eats_ty : Eats tyP := eats_of ty_wrote (fun x => by simp [tyB, wide_len])
theorem eats_hd : Eats hdP := eats_of hd_wrote (fun x => by simp [hdB, wide_len])
theorem eats_ins : Eats insP := eats_of ins_wrote (fun x => by simp only [insB, List.length_append, wide_len]; omega)
theorem eats_cl : Eats clP := eats_of cl_wrote (fun x => by simp only [clB, List.length_append, wide_len]; omega)
theorem eats_me : Eats meP := eats_of me_wrote (fun x => by simp only [meB, tyB, List.length_append, wide_len]; omega)


theorem own_keep {w w' : World} {base : Nat} {T : TypeId} {size n b : Nat} {v : Value} {xs : List Value} (h : w.ownsRow base T size v n xs) (hk : Wk [b] w w') (hb : ∀ g, v.ownBlock = some g → g ≠ b) : w'.ownsRow base T size v n xs := by
  refine ⟨h.1, ?_⟩
  rcases h.2 with hn | ⟨g, cap, cur, rfl, hbg, hg, rest⟩
  · exact .inl hn
  · exact .inr ⟨g, cap, cur, rfl, hbg, by rw [hk.block g (Array.getElem?_eq_some_iff.1 hg).1 (by simp; exact hb g rfl)]; exact hg, rest⟩
theorem news_at (w : World) (cs : List Value) (t : TypeId) : ∀ j u, cs[j]? = some u → (w.alloc (.cells cs.toArray t)).cell? ((⟨w.heap.size, 0, none⟩ : Addr).add j) = some u :=
  World.news_of_block (cs := cs.toArray) (t := t) (fr := (0, 0)) (heap_alloc_new w _)

/-- an element behind those that were read -/
theorem item_added {α : Type} {V : World → (Nat → Prop) → List Value → α → Prop} {w wr w2 w3 : World} {B b g2 cap2 size : Nat} {T : TypeId} {r' : List UInt8} {v : Value} {xs cs : List Value} {acc : List α} {x : α} {o : Obj}
    (HK2 : Wk [b] w w2) (H2 : Rdr w2 B b r') (HO2 : w2.ownsRow w.heap.size T size v acc.length xs) (HW : Row V size wr (Rw w.heap.size wr v) xs acc) (HKc : Wk [b] wr w2) (hlt : b < w.heap.size) (hge : w.heap.size ≤ wr.heap.size) (hvr : ∀ g, v.ownBlock = some g → g < wr.heap.size)
    (HV : V w2 (Nw wr.heap.size w2.heap.size) cs x) (sV : Stays V) (hcs : cs.length = size)
    (hown : w3.ownsRow w.heap.size T size (.slice (some ⟨g2, 0, none⟩) (acc.length + 1) cap2) (acc.length + 1) (xs ++ cs)) (hgrow : (w2.alloc o).grownBy w3 v.ownBlock) (hat : v.ownBlock = some g2 ∨ g2 = (w2.alloc o).heap.size) :
    Wk [b] w w3 ∧ Rdr w3 B b r' ∧ w3.ownsRow w.heap.size T size (.slice (some ⟨g2, 0, none⟩) (acc.length + 1) cap2) (acc ++ [x]).length (xs ++ cs) ∧ Row V size w3 (Rw w.heap.size w3 (.slice (some ⟨g2, 0, none⟩) (acc.length + 1) cap2)) (xs ++ cs) (acc ++ [x]) := by
  have hs : (w2.alloc o).heap.size = w2.heap.size + 1 := by simp
  have h23 : w2.heap.size + 1 ≤ w3.heap.size := by rw [← hs]; exact hgrow.size
  have hr2 := HKc.size
  have hat' : v.ownBlock = some g2 ∨ g2 = w2.heap.size + 1 := by rw [hs] at hat; exact hat
  have hvlo : ∀ g, v.ownBlock = some g → w.heap.size ≤ g := fun g hg => (HO2.lt g hg).1
  have blk : ∀ k, k < w2.heap.size → v.ownBlock ≠ some k → w3.heap[k]? = w2.heap[k]? := fun k hk hn =>
    (hgrow.block k (by omega) (fun e => hn e.symm)).trans (heap_alloc_old w2 o hk)
  have HK23 : Wk (match v.ownBlock with | some g => [g] | none => []) w2 w3 := by
    refine ((Wk.refl _ w2).alloc o).trans (Wk.of_grown hgrow (fun k hk => ?_))
    rw [hk]; simp
  refine ⟨HK2.trans' HK23 (fun y hy => ?_), H2.next HK23 (fun y hy => ?_), by simpa using hown, Row.snoc (Row.stays sV (fun k hk => ?_) HW) hcs (sV _ _ _ _ _ _ (fun k hk => ?_) HV)⟩
  · cases hv : v.ownBlock with
    | none => rw [hv] at hy; simp at hy
    | some g => rw [hv] at hy; simp at hy; subst hy; exact .inr (hvlo _ hv)
  · cases hv : v.ownBlock with
    | none => rw [hv] at hy; simp at hy
    | some g => rw [hv] at hy; simp at hy; subst hy; have := hvlo _ hv; omega
  · obtain ⟨k1, k2, k3⟩ := hk
    refine ⟨⟨k1, by omega, ?_⟩, (blk k (by omega) k3).trans (HKc.block k k2 (by simp; omega))⟩
    simp only [Value.ownBlock]
    rcases hat' with e | e
    · rw [e] at k3; exact k3
    · intro e2; injection e2 with e2; omega
  · obtain ⟨k1, k2⟩ := hk
    have hvk : v.ownBlock ≠ some k := fun e => by have := hvr k e; omega
    refine ⟨⟨by omega, by omega, ?_⟩, blk k k2 hvk⟩
    simp only [Value.ownBlock]
    rcases hat' with e | e
    · rw [e] at hvk; exact hvk
    · intro e2; injection e2 with e2; omega

set_option maxHeartbeats 1000000 in
theorem numP (B b : Nat) (bs : List UInt8) (w : World) (h : Rdr w B b bs) :
    Calls Try.prog 98 #[.pointer (some ⟨b, 0, none⟩)] w (Rp (rd bs) RInt B b w) := by
  have hR := Lib.hid h
  clear h
  go_enter Try.func98, Try.ntmps98
  go_wp2_with fail
  refine (wideP B b bs _ hR.out).mono ?_
  rintro e w1 ⟨hk, hp⟩
  have HK := Lib.hid hk
  clear hk
  obtain ⟨r, HR⟩ : ∃ r, Hid (rd bs = r) := ⟨_, rfl⟩
  rw [HR.out] at hp
  rcases r with _ | ⟨x, rest⟩
  · subst hp
    unfold shortE
    go_wp2_with fail
    refine And.intro rfl ?_
    show Rp _ _ _ _ _ _ _
    unfold Rp
    rw [HR.out]
    exact ⟨HK.out, rfl⟩
  · obtain ⟨v, rfl, rfl, hR1⟩ := hp
    have H1 := Lib.hid hR1
    clear hR1
    go_wp2_with fail
    go_ret
    unfold Rp
    rw [HR.out]
    exact ⟨HK.out, _, rfl, rfl, H1.out⟩

/-! ### a run of reads: what is read, and what is left; none where bytes are short -/
set_option maxRecDepth 100000 in
set_option maxHeartbeats 2000000 in
theorem kindP (B b : Nat) (bs : List UInt8) (w : World) (h : Rdr w B b bs) :
    Calls Try.prog 100 #[.pointer (some ⟨b, 0, none⟩)] w (Rp (tyP bs) (RS VTy w.heap.size) B b w) := by
  have hR := Lib.hid h
  have hlt := h.lt
  clear h
  go_enter Try.func100, Try.ntmps100
  go_wp2_with fail
  refine (numP B b bs _ (hR.out.alloc _)).mono ?_
  rintro e w1 ⟨hk, hp⟩
  have hk' : Wk [b] w w1 := ((Wk.refl _ _).alloc _).trans hk
  have y0 := hk.cell (c := w.heap.size) (o := 0) (v := .int .i64 0) (by go_simp) (by simp; omega)
  have y1 := hk.cell (c := w.heap.size) (o := 1) (v := .int .i64 0) (by go_simp) (by simp; omega)
  have f0 := hk.frz (c := w.heap.size) (o := 0) (by go_simp) (by simp) (by simp; omega)
  have f1 := hk.frz (c := w.heap.size) (o := 1) (by go_simp) (by simp) (by simp; omega)
  have HK := Lib.hid hk'
  have hne : w.heap.size ≠ b := by omega
  clear hk hk'
  obtain ⟨r, HR⟩ : ∃ r, Hid (rd bs = r) := ⟨_, rfl⟩
  rw [HR.out] at hp
  rcases r with _ | ⟨x, rest⟩
  · have HQ : Hid (tyP bs = none) := bind_none HR.out
    subst hp
    unfold shortE
    go_wp2_with fail
    refine And.intro rfl ?_
    show Rp _ _ _ _ _ _ _
    unfold Rp
    rw [HQ.out]
    exact ⟨HK.out, rfl⟩
  · obtain ⟨v, rfl, rfl, hR1⟩ := hp
    have H1 := Lib.hid hR1
    have HQ : Hid (tyP bs = bind rd (fun c => ret ⟨x, c⟩) rest) := bind_of HR.out
    have okx := Lib.hid (rd_wrote _ _ _ HR.out).2
    clear hR1
    go_wp2_with fail
    refine (numP B b rest _ H1.out).mono ?_
    rintro e w2 ⟨hk, hp⟩
    have y0' := hk.cell y0 (by simp; omega)
    have y1' := hk.cell y1 (by simp; omega)
    have f0' := hk.frz f0 (lt_cell' y0) (by simp; omega)
    have f1' := hk.frz f1 (lt_cell' y0) (by simp; omega)
    have HK2 := Lib.hid (HK.out.trans hk)
    clear hk y0 y1 f0 f1
    obtain ⟨r2, HR2⟩ : ∃ r2, Hid (rd rest = r2) := ⟨_, rfl⟩
    rw [HR2.out] at hp
    rcases r2 with _ | ⟨x2, rest2⟩
    · have HQ2 : Hid (tyP bs = none) := HQ.out.trans (bind_none HR2.out)
      subst hp
      unfold shortE
      go_wp2_with fail
      refine And.intro rfl ?_
      show Rp _ _ _ _ _ _ _
      unfold Rp
      rw [HQ2.out]
      exact ⟨HK2.out, rfl⟩
    · obtain ⟨v, rfl, rfl, hR1⟩ := hp
      have H2 := Lib.hid hR1
      have HQ2 : Hid (tyP bs = some (⟨x, x2⟩, rest2)) := HQ.out.trans (bind_of HR2.out)
      have okx2 := Lib.hid (rd_wrote _ _ _ HR2.out).2
      clear hR1
      go_wp2_with fail
      refine bodyPost_ret (v := .agg #[.int .i64 x, .int .i64 x2]) (by simp [results, Try.results100, go_sem]; go_simp) rfl ?_
      unfold Rp
      rw [HQ2.out]
      have hlt2 := HK2.out.size
      refine ⟨((HK2.out.setCell (.inr (Nat.le_refl _)) _).setCell (.inr (Nat.le_refl _)) _), _, rfl, ⟨_, rfl, rfl, okx.out, okx2.out⟩, H2.out.next (X := [w.heap.size]) (((Wk.refl _ _).setCell (.inl (by simp)) _).setCell (.inl (by simp)) _) (by simp; exact hlt)⟩
end Wire
end Go.Proofs.Ytncmhenfgbcihaa

/- Reading bytes: lists of what is read. -/
namespace Go.Proofs.Ytncmhenfgbcihaa
open Go.RowKit
set_option linter.unusedSimpArgs false
set_option linter.unusedVariables false
namespace Wire
open Num Rd D Bytes HierW

theorem info_Int : (Try.prog.info? 3).map (fun i => (i.zero, i.size, i.bytes)) = some (some (.int .i64 0), 1, 8) := by kernel_rfl
set_option maxRecDepth 100000 in
set_option maxHeartbeats 4000000 in
theorem itemsInt (B b : Nat) (bs : List UInt8) (w : World) (h : Rdr w B b bs) (hlen : bs.length ≤ 4000000) :
    Calls Try.prog 109 #[.pointer (some ⟨b, 0, none⟩), .func (Fn.func 98) #[.pointer (some ⟨b, 0, none⟩)] #[]] w (Rp (lstP rd bs) (RL VInt 1 w.heap.size) B b w) := by
  obtain ⟨i0, hi, hz0, hz1, hz2⟩ := info_parts info_Int
  have hR := Lib.hid h
  have hlt := h.lt
  clear h
  go_enter Try.func109, Try.ntmps109
  go_wp2_with fail
  refine (numP B b bs _ hR.out).mono ?_
  rintro e w1 ⟨hk, hp⟩
  have HK := Lib.hid hk
  have hw1s := hk.size
  clear hk
  obtain ⟨r, HR⟩ : ∃ r, Hid (rd bs = r) := ⟨_, rfl⟩
  rw [HR.out] at hp
  rcases r with _ | ⟨n, rest⟩
  · have HQ : Hid (lstP rd bs = none) := lst_none HR.out
    subst hp
    unfold shortE
    go_wp2_with fail
    refine And.intro rfl ?_
    show Rp _ _ _ _ _ _ _
    unfold Rp
    rw [HQ.out]
    exact ⟨HK.out, rfl⟩
  obtain ⟨v, rfl, hvn, hR1⟩ := hp
  unfold RInt at hvn
  subst hvn
  have H1 := Lib.hid hR1
  have hrl := eats_rd _ _ _ HR.out
  have hlt1 := hR1.lt
  obtain ⟨hB, v, hc, hf, a, cap, rfl, hlc, hcc, _⟩ := hR1
  have okn := (rd_wrote _ _ _ HR.out).2
  unfold Ok at okn
  by_cases hneg : n < 0
  · have HQ : Hid (lstP rd bs = none) := lst_neg HR.out hneg
    have hnb : decide (n < 0) = true := by simp [hneg]
    go_wp2_with fail
    refine And.intro rfl ?_
    show Rp _ _ _ _ _ _ _
    unfold Rp
    rw [HQ.out]
    exact ⟨HK.out, rfl⟩
  have hneg2 : 0 ≤ n := by omega
  have hnb : decide (n < 0) = false := by simp [hneg2]
  by_cases hbig : (rest.length : Int) / 8 < n
  · have HQ : Hid (lstP rd bs = none) := lst_big eats_rd HR.out hbig
    have hbb : decide ((rest.length : Int) / 8 < n) = true := by simp [hbig]
    go_wp2_with fail
    refine And.intro rfl ?_
    show Rp _ _ _ _ _ _ _
    unfold Rp
    rw [HQ.out]
    exact ⟨HK.out, rfl⟩
  have hbb : decide ((rest.length : Int) / 8 < n) = false := by simp; omega
  have HQ0 := Lib.hid (cont_start (p := rd) HR.out (by omega))
  have hn5 : n ≤ 500000 := by omega
  go_wp2_with fail
  clear hnb hbb hc hf hlc hcc
  go_loopw [6, 24] (fun v i wr => ∃ (k : Nat) (acc : List Int) (xs : List Value) (restk : List UInt8), (k : Int) ≤ n ∧ restk.length ≤ 4000000 ∧ i = .int .i64 k ∧ Hid (acc.length = k) ∧ Hid (Wk [b] w wr) ∧ Hid (Rdr wr B b restk) ∧ Hid (wr.ownsRow w.heap.size 3 1 v acc.length xs) ∧ Hid (Row VInt 1 wr (Rw w.heap.size wr v) xs acc) ∧ Hid (lstP rd bs = Cont rd (n.toNat - k) acc restk)) (fun _ i _ => n.toNat - (intOf i).toNat)
  case atStart => exact ⟨0, [], [], rest, by omega, by omega, rfl, rfl, HK, H1, World.ownsRow_nil _ _ _ _, Row.nil _ _ _ _, HQ0⟩
  case round =>
    obtain ⟨k, acc, xs, restk, hk, hrk, rfl, hacc, HKr, HRr, HOr, HWr, HQr⟩ := hrel
    have hsz := HKr.out.size
    have hbl := HRr.out.lt
    have hal : acc.length ≤ 500000 := by have := hacc.out; omega
    by_cases hlt2 : (k : Int) < n
    · go_wp2_with fail
      refine (numP B b restk _ HRr.out).mono ?_
      rintro e w2 ⟨hk2, hp⟩
      have hk2s := hk2.size
      have HKc := Lib.hid hk2
      have HK2 := Lib.hid (HKr.out.trans hk2)
      clear hk2
      obtain ⟨r, HP⟩ : ∃ r, Hid (rd restk = r) := ⟨_, rfl⟩
      rw [HP.out] at hp
      rcases r with _ | ⟨x, r'⟩
      · have HQ2 : Hid (lstP rd bs = none) := HQr.out.trans (by rw [show n.toNat - k = (n.toNat - (k + 1)) + 1 by omega]; exact cont_none HP.out)
        subst hp
        unfold shortE
        go_wp2_with fail
        refine And.intro rfl ?_
        show Rp _ _ _ _ _ _ _
        unfold Rp
        rw [HQ2.out]
        exact ⟨HK2.out, rfl⟩
      · have HQ2 : Hid (lstP rd bs = Cont rd (n.toNat - (k + 1)) (acc ++ [x]) r') := HQr.out.trans (by rw [show n.toNat - k = (n.toNat - (k + 1)) + 1 by omega]; exact cont_some HP.out)
        have her := eats_rd _ _ _ HP.out
        obtain ⟨v, rfl, hvx, hR2⟩ := hp
        unfold RInt at hvx
        subst hvx
        have hV : VInt w2 (Nw wr.heap.size w2.heap.size) [.int .i64 x] x := ⟨rfl, (rd_wrote _ _ _ HP.out).2⟩
        have HV := Lib.hid hV
        have H2 := Lib.hid hR2
        have HO2 := Lib.hid (own_keep HOr.out HKc.out (by simp; exact fun g hg e => by have := (HOr.out.lt g hg).1; omega))
        clear hV hR2
        go_wp2_with (at_builtin; refine wpList_append_lies _ rfl (.tmp 26) (.tmp 29) 41 rfl w.heap.size 3 i0 (.int .i64 0) 1 8 Try.underlying41 hi hz0 hz1 hz2 rfl (by decide) _ acc.length xs (by simp [Act.eval, Act.put]) (HO2.out.alloc _) ⟨w2.heap.size, 0, none⟩ 1 1 [.int .i64 x] (by simp [Act.eval, Act.put]) rfl (by exact news_at _ _ _) (by simp [Value.oneCell']) (by decide) (by unfold maxLen; omega) (by omega) (by simp; omega) _ rfl ?_; intro g2 cap2 w3 hown3 hgrow3 hat3 hlt3; have HA := Lib.hid (item_added HK2.out H2.out HO2.out HWr.out HKc.out hlt hsz (fun g hg => (HOr.out.lt g hg).2) HV.out sInt rfl hown3 hgrow3 hat3); clear hown3 hgrow3 hat3)
        obtain ⟨a1, a2, a3, a4⟩ := HA.out
        have A1 := Lib.hid a1; have A2 := Lib.hid a2; have A3 := Lib.hid a3; have A4 := Lib.hid a4
        clear a1 a2 a3 a4 HA hlt3
        have hlen2 : acc.length + 1 = (acc ++ [x]).length := by simp
        have HL2 := Lib.hid hlen2
        clear hlen2
        go_wp2_with fail
        go_roundw
        case rel => exact ⟨k + 1, acc ++ [x], _, r', by omega, by omega, by go_num, Lib.hid (by have := hacc.out; simp; omega), A1, A2, A3, A4, HQ2⟩
        case measure => simp [intOf]; omega
    · have hkn : n.toNat - k = 0 := by omega
      have HQ2 : Hid (lstP rd bs = some (acc, restk)) := HQr.out.trans (by rw [hkn]; exact cont_zero _ _ _)
      have HS := Lib.hid (Row.sl sInt HWr.out HOr.out (by omega) (P' := Nw w.heap.size _) (fun k hk => ⟨hk.1, hk.2.1⟩) (fun g hg => HOr.out.lt g hg))
      clear hkn
      go_wp2_with fail
      go_ret
      unfold Rp
      rw [HQ2.out]
      exact ⟨HKr.out, _, rfl, HS.out, HRr.out⟩


theorem info_Ty : (Try.prog.info? 46).map (fun i => (i.zero, i.size, i.bytes)) = some (some (.agg #[.int .i64 0, .int .i64 0]), 2, 16) := by kernel_rfl
set_option maxRecDepth 100000 in
set_option maxHeartbeats 4000000 in
theorem itemsTy (B b : Nat) (bs : List UInt8) (w : World) (h : Rdr w B b bs) (hlen : bs.length ≤ 4000000) :
    Calls Try.prog 99 #[.pointer (some ⟨b, 0, none⟩), .func (Fn.func 100) #[.pointer (some ⟨b, 0, none⟩)] #[]] w (Rp (lstP tyP bs) (RL VTy 2 w.heap.size) B b w) := by
  obtain ⟨i0, hi, hz0, hz1, hz2⟩ := info_parts info_Ty
  have hR := Lib.hid h
  have hlt := h.lt
  clear h
  go_enter Try.func99, Try.ntmps99
  go_wp2_with fail
  refine (numP B b bs _ hR.out).mono ?_
  rintro e w1 ⟨hk, hp⟩
  have HK := Lib.hid hk
  have hw1s := hk.size
  clear hk
  obtain ⟨r, HR⟩ : ∃ r, Hid (rd bs = r) := ⟨_, rfl⟩
  rw [HR.out] at hp
  rcases r with _ | ⟨n, rest⟩
  · have HQ : Hid (lstP tyP bs = none) := lst_none HR.out
    subst hp
    unfold shortE
    go_wp2_with fail
    refine And.intro rfl ?_
    show Rp _ _ _ _ _ _ _
    unfold Rp
    rw [HQ.out]
    exact ⟨HK.out, rfl⟩
  obtain ⟨v, rfl, hvn, hR1⟩ := hp
  unfold RInt at hvn
  subst hvn
  have H1 := Lib.hid hR1
  have hrl := eats_rd _ _ _ HR.out
  have hlt1 := hR1.lt
  obtain ⟨hB, v, hc, hf, a, cap, rfl, hlc, hcc, _⟩ := hR1
  have okn := (rd_wrote _ _ _ HR.out).2
  unfold Ok at okn
  by_cases hneg : n < 0
  · have HQ : Hid (lstP tyP bs = none) := lst_neg HR.out hneg
    have hnb : decide (n < 0) = true := by simp [hneg]
    go_wp2_with fail
    refine And.intro rfl ?_
    show Rp _ _ _ _ _ _ _
    unfold Rp
    rw [HQ.out]
    exact ⟨HK.out, rfl⟩
  have hneg2 : 0 ≤ n := by omega
  have hnb : decide (n < 0) = false := by simp [hneg2]
  by_cases hbig : (rest.length : Int) / 8 < n
  · have HQ : Hid (lstP tyP bs = none) := lst_big eats_ty HR.out hbig
    have hbb : decide ((rest.length : Int) / 8 < n) = true := by simp [hbig]
    go_wp2_with fail
    refine And.intro rfl ?_
    show Rp _ _ _ _ _ _ _
    unfold Rp
    rw [HQ.out]
    exact ⟨HK.out, rfl⟩
  have hbb : decide ((rest.length : Int) / 8 < n) = false := by simp; omega
  have HQ0 := Lib.hid (cont_start (p := tyP) HR.out (by omega))
  have hn5 : n ≤ 500000 := by omega
  go_wp2_with fail
  clear hnb hbb hc hf hlc hcc
  go_loopw [6, 24] (fun v i wr => ∃ (k : Nat) (acc : List Ty) (xs : List Value) (restk : List UInt8), (k : Int) ≤ n ∧ restk.length ≤ 4000000 ∧ i = .int .i64 k ∧ Hid (acc.length = k) ∧ Hid (Wk [b] w wr) ∧ Hid (Rdr wr B b restk) ∧ Hid (wr.ownsRow w.heap.size 46 2 v acc.length xs) ∧ Hid (Row VTy 2 wr (Rw w.heap.size wr v) xs acc) ∧ Hid (lstP tyP bs = Cont tyP (n.toNat - k) acc restk)) (fun _ i _ => n.toNat - (intOf i).toNat)
  case atStart => exact ⟨0, [], [], rest, by omega, by omega, rfl, rfl, HK, H1, World.ownsRow_nil _ _ _ _, Row.nil _ _ _ _, HQ0⟩
  case round =>
    obtain ⟨k, acc, xs, restk, hk, hrk, rfl, hacc, HKr, HRr, HOr, HWr, HQr⟩ := hrel
    have hsz := HKr.out.size
    have hbl := HRr.out.lt
    have hal : acc.length ≤ 500000 := by have := hacc.out; omega
    by_cases hlt2 : (k : Int) < n
    · go_wp2_with fail
      refine (kindP B b restk _ HRr.out).mono ?_
      rintro e w2 ⟨hk2, hp⟩
      have hk2s := hk2.size
      have HKc := Lib.hid hk2
      have HK2 := Lib.hid (HKr.out.trans hk2)
      clear hk2
      obtain ⟨r, HP⟩ : ∃ r, Hid (tyP restk = r) := ⟨_, rfl⟩
      rw [HP.out] at hp
      rcases r with _ | ⟨x, r'⟩
      · have HQ2 : Hid (lstP tyP bs = none) := HQr.out.trans (by rw [show n.toNat - k = (n.toNat - (k + 1)) + 1 by omega]; exact cont_none HP.out)
        subst hp
        unfold shortE
        go_wp2_with fail
        refine And.intro rfl ?_
        show Rp _ _ _ _ _ _ _
        unfold Rp
        rw [HQ2.out]
        exact ⟨HK2.out, rfl⟩
      · have HQ2 : Hid (lstP tyP bs = Cont tyP (n.toNat - (k + 1)) (acc ++ [x]) r') := HQr.out.trans (by rw [show n.toNat - k = (n.toNat - (k + 1)) + 1 by omega]; exact cont_some HP.out)
        have her := eats_ty _ _ _ HP.out
        obtain ⟨v, rfl, ⟨cs, rfl, hV⟩, hR2⟩ := hp
        have hV' := Lib.hid hV
        obtain ⟨rfl, okx⟩ := hV
        have hV := hV'.out
        clear hV'
        have HV := Lib.hid hV
        have H2 := Lib.hid hR2
        have HO2 := Lib.hid (own_keep HOr.out HKc.out (by simp; exact fun g hg e => by have := (HOr.out.lt g hg).1; omega))
        clear hV hR2
        go_wp2_with (at_builtin; refine wpList_append_lies _ rfl (.tmp 26) (.tmp 29) 38 rfl w.heap.size 46 i0 (.agg #[.int .i64 0, .int .i64 0]) 2 16 Try.underlying38 hi hz0 hz1 hz2 rfl (by decide) _ acc.length xs (by simp [Act.eval, Act.put]) (HO2.out.alloc _) ⟨w2.heap.size, 0, none⟩ 1 1 [.int .i64 x.kind, .int .i64 x.cls] (by simp [Act.eval, Act.put]) rfl (by exact news_at _ _ _) (by simp [Value.oneCell']) (by decide) (by unfold maxLen; omega) (by omega) (by simp; omega) _ rfl ?_; intro g2 cap2 w3 hown3 hgrow3 hat3 hlt3; have HA := Lib.hid (item_added HK2.out H2.out HO2.out HWr.out HKc.out hlt hsz (fun g hg => (HOr.out.lt g hg).2) HV.out sTy rfl hown3 hgrow3 hat3); clear hown3 hgrow3 hat3)
        obtain ⟨a1, a2, a3, a4⟩ := HA.out
        have A1 := Lib.hid a1; have A2 := Lib.hid a2; have A3 := Lib.hid a3; have A4 := Lib.hid a4
        clear a1 a2 a3 a4 HA hlt3
        have hlen2 : acc.length + 1 = (acc ++ [x]).length := by simp
        have HL2 := Lib.hid hlen2
        clear hlen2
        go_wp2_with fail
        go_roundw
        case rel => exact ⟨k + 1, acc ++ [x], _, r', by omega, by omega, by go_num, Lib.hid (by have := hacc.out; simp; omega), A1, A2, A3, A4, HQ2⟩
        case measure => simp [intOf]; omega
    · have hkn : n.toNat - k = 0 := by omega
      have HQ2 : Hid (lstP tyP bs = some (acc, restk)) := HQr.out.trans (by rw [hkn]; exact cont_zero _ _ _)
      have HS := Lib.hid (Row.sl sTy HWr.out HOr.out (by omega) (P' := Nw w.heap.size _) (fun k hk => ⟨hk.1, hk.2.1⟩) (fun g hg => HOr.out.lt g hg))
      clear hkn
      go_wp2_with fail
      go_ret
      unfold Rp
      rw [HQ2.out]
      exact ⟨HKr.out, _, rfl, HS.out, HRr.out⟩

end Wire
end Go.Proofs.Ytncmhenfgbcihaa

/- Reading bytes: handlers and instructions. -/
namespace Go.Proofs.Ytncmhenfgbcihaa
open Go.RowKit
set_option linter.unusedSimpArgs false
set_option linter.unusedVariables false
namespace Wire
open Num Rd D Bytes HierW

/-- numbers that lie in a block from a place on -/
def Quad (w : World) (nb o m : Nat) (ys : List Int) : Prop := ∀ j, j < m → w.cell? ⟨nb, o + j, none⟩ = some (.int .i64 (ys.getD j 0)) ∧ w.frozen? ⟨nb, o + j, none⟩ = false
theorem Quad.next {w w' : World} {nb o m : Nat} {ys : List Int} (h : Quad w nb o m ys) {X : List Nat} (hk : Wk X w w') (hX : nb ∉ X) : Quad w' nb o m ys := fun j hj =>
  ⟨hk.cell (h j hj).1 hX, hk.frz (h j hj).2 (lt_cell' (h j hj).1) hX⟩
theorem Quad.set {w : World} {nb o m : Nat} {ys : List Int} (h : Quad w nb o m ys) {k : Nat} (hk : k = ys.length) (x : Int) (hm : k < m) : Quad (w.setCell ⟨nb, o + k, none⟩ (.int .i64 x)) nb o m (ys ++ [x]) := fun j hj => by
  subst hk
  obtain ⟨h1, h2⟩ := h j hj
  obtain ⟨g1, g2⟩ := h ys.length hm
  by_cases e : j = ys.length
  · subst e
    refine ⟨?_, ?_⟩
    · have : (ys ++ [x]).getD ys.length 0 = x := by simp [List.getD]
      rw [this]; go_simp
    · go_simp
  · have hne : ¬ ((⟨nb, o + j, none⟩ : Addr) = ⟨nb, o + ys.length, none⟩) := by intro h; injection h with _ h; omega
    have : (ys ++ [x]).getD j 0 = ys.getD j 0 := by
      simp only [List.getD]
      by_cases hlt : j < ys.length
      · rw [List.getElem?_append_left hlt]
      · rw [List.getElem?_eq_none (by simp; omega), List.getElem?_eq_none (by omega)]
    rw [this]
    exact ⟨by rw [World.cell?_setCell_other _ _ _ _ (fun e => hne e.symm)]; exact h1, by rw [World.frozen?_setCell]; exact h2⟩
theorem Quad.far {w : World} {nb o m : Nat} {ys : List Int} (h : Quad w nb o m ys) {b2 o2 : Nat} (hne : b2 ≠ nb) (x : Value) : Quad (w.setCell ⟨b2, o2, none⟩ x) nb o m ys :=
  h.next (X := [b2]) ((Wk.refl _ _).setCell (.inl (by simp)) _) (by simp; exact fun e => hne e.symm)

theorem hd_rep (bs : List UInt8) : hdP bs = (match Cont rd 4 [] bs with
  | none => none
  | some (l, r) => some (⟨l.getD 0 0, l.getD 1 0, l.getD 2 0, l.getD 3 0⟩, r)) := by
  rw [hdP]
  cases h1 : rd bs with
  | none => rw [bind_none h1, cont_none h1]
  | some y =>
    obtain ⟨a, r1⟩ := y
    rw [bind_of h1, cont_some h1]
    cases h2 : rd r1 with
    | none => rw [bind_none h2, cont_none h2]
    | some y =>
      obtain ⟨b, r2⟩ := y
      rw [bind_of h2, cont_some h2]
      cases h3 : rd r2 with
      | none => rw [bind_none h3, cont_none h3]
      | some y =>
        obtain ⟨c, r3⟩ := y
        rw [bind_of h3, cont_some h3]
        cases h4 : rd r3 with
        | none => rw [bind_none h4, cont_none h4]
        | some y =>
          obtain ⟨d, r4⟩ := y
          rw [bind_of h4, cont_some h4, cont_zero]; rfl

set_option maxRecDepth 100000 in
set_option maxHeartbeats 4000000 in
theorem handlerP (B b : Nat) (bs : List UInt8) (w : World) (h : Rdr w B b bs) :
    Calls Try.prog 104 #[.pointer (some ⟨b, 0, none⟩)] w (Rp (hdP bs) (RS VHd w.heap.size) B b w) := by
  have hR := Lib.hid h
  have hlt := h.lt
  clear h
  have i0 : ∀ (a b c d : Value) (w : World), (Instr.index 138 (.agg #[a, b, c, d]) (.int .i64 0)).run Try.prog w = .ok a w := fun _ _ _ _ _ => by kernel_rfl
  have i1 : ∀ (a b c d : Value) (w : World), (Instr.index 138 (.agg #[a, b, c, d]) (.int .i64 1)).run Try.prog w = .ok b w := fun _ _ _ _ _ => by kernel_rfl
  have i2 : ∀ (a b c d : Value) (w : World), (Instr.index 138 (.agg #[a, b, c, d]) (.int .i64 2)).run Try.prog w = .ok c w := fun _ _ _ _ _ => by kernel_rfl
  have i3 : ∀ (a b c d : Value) (w : World), (Instr.index 138 (.agg #[a, b, c, d]) (.int .i64 3)).run Try.prog w = .ok d w := fun _ _ _ _ _ => by kernel_rfl
  go_enter Try.func104, Try.ntmps104
  go_wp2_with fail
  go_loopw [11] (fun i wr => ∃ (k : Nat) (ys : List Int) (restk : List UInt8), k ≤ 4 ∧ i = .int .i64 k ∧ Hid (ys.length = k) ∧ Hid (Wk [b] w wr) ∧ Hid (Rdr wr B b restk) ∧ Hid (Quad wr w.heap.size 0 4 []) ∧ Hid (Quad wr (w.heap.size + 1) 0 4 ys) ∧ Hid (∀ y ∈ ys, Ok y) ∧ Hid (Cont rd 4 [] bs = Cont rd (4 - k) ys restk)) (fun i _ => 4 - (intOf i).toNat)
  case atStart =>
    refine ⟨0, [], bs, by omega, rfl, rfl, Lib.hid (((Wk.refl _ _).alloc _).alloc _), Lib.hid ((hR.out.alloc _).alloc _), ?_, ?_, fun y hy => absurd hy (by simp), rfl⟩
    · show Quad _ _ _ _ _
      intro j hj
      match j, hj with
      | 0, _ => exact ⟨by go_simp; try rfl, by go_simp⟩
      | 1, _ => exact ⟨by go_simp; try rfl, by go_simp⟩
      | 2, _ => exact ⟨by go_simp; try rfl, by go_simp⟩
      | 3, _ => exact ⟨by go_simp; try rfl, by go_simp⟩
    · show Quad _ _ _ _ _
      intro j hj
      match j, hj with
      | 0, _ => exact ⟨by go_simp; try rfl, by go_simp⟩
      | 1, _ => exact ⟨by go_simp; try rfl, by go_simp⟩
      | 2, _ => exact ⟨by go_simp; try rfl, by go_simp⟩
      | 3, _ => exact ⟨by go_simp; try rfl, by go_simp⟩
  case round =>
    obtain ⟨k, ys, restk, hk, rfl, hyl, HKr, HRr, HZ, HQ, HY, HC⟩ := hrel
    have hsz := HKr.out.size
    by_cases hlt2 : k < 4
    · have hcase : k = 0 ∨ k = 1 ∨ k = 2 ∨ k = 3 := by omega
      rcases hcase with rfl | rfl | rfl | rfl
      · go_wp2_with fail
        refine (numP B b restk _ HRr.out).mono ?_
        rintro e w2 ⟨hk2, hp⟩
        have HK2 := Lib.hid (HKr.out.trans hk2)
        have HZ2 := Lib.hid (HZ.out.next hk2 (by simp; omega))
        have HQ2 := Lib.hid (HQ.out.next hk2 (by simp; omega))
        clear hk2
        obtain ⟨r, HP⟩ : ∃ r, Hid (rd restk = r) := ⟨_, rfl⟩
        rw [HP.out] at hp
        rcases r with _ | ⟨x, r'⟩
        · have HN : Hid (hdP bs = none) := by
            show _ = _
            rw [hd_rep, HC.out, cont_none HP.out]
          subst hp
          unfold shortE
          go_wp2_with fail
          refine And.intro rfl ?_
          show Rp _ _ _ _ _ _ _
          unfold Rp
          rw [HN.out]
          exact ⟨HK2.out, rfl⟩
        · have HC2 := Lib.hid (HC.out.trans (cont_some HP.out))
          obtain ⟨v, rfl, hvx, hR2⟩ := hp
          unfold RInt at hvx
          subst hvx
          have okx := Lib.hid (rd_wrote _ _ _ HP.out).2
          have H2 := Lib.hid hR2
          obtain ⟨q1, q2⟩ := HQ2.out 0 (by omega)
          simp only [Nat.zero_add] at q1 q2
          have hb2 := hR2.lt
          have hs2 := HK2.out.size
          clear hR2
          go_wp2_with fail
          go_roundw
          case rel =>
            have hset := HQ2.out.set (k := 0) hyl.out.symm x (by omega)
            simp only [Nat.zero_add] at hset
            exact ⟨0 + 1, ys ++ [x], r', by omega, rfl, Lib.hid (by rw [List.length_append, hyl.out]; rfl), Lib.hid (HK2.out.setCell (.inr (by simp)) _), Lib.hid (H2.out.next (X := [w.heap.size + 1]) ((Wk.refl _ _).setCell (.inl (by simp)) _) (by simp; omega)), Lib.hid (HZ2.out.far (by omega) _), Lib.hid hset, Lib.hid (fun y hy => (List.mem_append.1 hy).elim (HY.out y) (fun h => by simp at h; subst h; exact okx.out)), HC2⟩
          case measure => simp [intOf]
      · go_wp2_with fail
        refine (numP B b restk _ HRr.out).mono ?_
        rintro e w2 ⟨hk2, hp⟩
        have HK2 := Lib.hid (HKr.out.trans hk2)
        have HZ2 := Lib.hid (HZ.out.next hk2 (by simp; omega))
        have HQ2 := Lib.hid (HQ.out.next hk2 (by simp; omega))
        clear hk2
        obtain ⟨r, HP⟩ : ∃ r, Hid (rd restk = r) := ⟨_, rfl⟩
        rw [HP.out] at hp
        rcases r with _ | ⟨x, r'⟩
        · have HN : Hid (hdP bs = none) := by
            show _ = _
            rw [hd_rep, HC.out, cont_none HP.out]
          subst hp
          unfold shortE
          go_wp2_with fail
          refine And.intro rfl ?_
          show Rp _ _ _ _ _ _ _
          unfold Rp
          rw [HN.out]
          exact ⟨HK2.out, rfl⟩
        · have HC2 := Lib.hid (HC.out.trans (cont_some HP.out))
          obtain ⟨v, rfl, hvx, hR2⟩ := hp
          unfold RInt at hvx
          subst hvx
          have okx := Lib.hid (rd_wrote _ _ _ HP.out).2
          have H2 := Lib.hid hR2
          obtain ⟨q1, q2⟩ := HQ2.out 1 (by omega)
          simp only [Nat.zero_add] at q1 q2
          have hb2 := hR2.lt
          have hs2 := HK2.out.size
          clear hR2
          go_wp2_with fail
          go_roundw
          case rel =>
            have hset := HQ2.out.set (k := 1) hyl.out.symm x (by omega)
            simp only [Nat.zero_add] at hset
            exact ⟨1 + 1, ys ++ [x], r', by omega, rfl, Lib.hid (by rw [List.length_append, hyl.out]; rfl), Lib.hid (HK2.out.setCell (.inr (by simp)) _), Lib.hid (H2.out.next (X := [w.heap.size + 1]) ((Wk.refl _ _).setCell (.inl (by simp)) _) (by simp; omega)), Lib.hid (HZ2.out.far (by omega) _), Lib.hid hset, Lib.hid (fun y hy => (List.mem_append.1 hy).elim (HY.out y) (fun h => by simp at h; subst h; exact okx.out)), HC2⟩
          case measure => simp [intOf]
      · go_wp2_with fail
        refine (numP B b restk _ HRr.out).mono ?_
        rintro e w2 ⟨hk2, hp⟩
        have HK2 := Lib.hid (HKr.out.trans hk2)
        have HZ2 := Lib.hid (HZ.out.next hk2 (by simp; omega))
        have HQ2 := Lib.hid (HQ.out.next hk2 (by simp; omega))
        clear hk2
        obtain ⟨r, HP⟩ : ∃ r, Hid (rd restk = r) := ⟨_, rfl⟩
        rw [HP.out] at hp
        rcases r with _ | ⟨x, r'⟩
        · have HN : Hid (hdP bs = none) := by
            show _ = _
            rw [hd_rep, HC.out, cont_none HP.out]
          subst hp
          unfold shortE
          go_wp2_with fail
          refine And.intro rfl ?_
          show Rp _ _ _ _ _ _ _
          unfold Rp
          rw [HN.out]
          exact ⟨HK2.out, rfl⟩
        · have HC2 := Lib.hid (HC.out.trans (cont_some HP.out))
          obtain ⟨v, rfl, hvx, hR2⟩ := hp
          unfold RInt at hvx
          subst hvx
          have okx := Lib.hid (rd_wrote _ _ _ HP.out).2
          have H2 := Lib.hid hR2
          obtain ⟨q1, q2⟩ := HQ2.out 2 (by omega)
          simp only [Nat.zero_add] at q1 q2
          have hb2 := hR2.lt
          have hs2 := HK2.out.size
          clear hR2
          go_wp2_with fail
          go_roundw
          case rel =>
            have hset := HQ2.out.set (k := 2) hyl.out.symm x (by omega)
            simp only [Nat.zero_add] at hset
            exact ⟨2 + 1, ys ++ [x], r', by omega, rfl, Lib.hid (by rw [List.length_append, hyl.out]; rfl), Lib.hid (HK2.out.setCell (.inr (by simp)) _), Lib.hid (H2.out.next (X := [w.heap.size + 1]) ((Wk.refl _ _).setCell (.inl (by simp)) _) (by simp; omega)), Lib.hid (HZ2.out.far (by omega) _), Lib.hid hset, Lib.hid (fun y hy => (List.mem_append.1 hy).elim (HY.out y) (fun h => by simp at h; subst h; exact okx.out)), HC2⟩
          case measure => simp [intOf]
      · go_wp2_with fail
        refine (numP B b restk _ HRr.out).mono ?_
        rintro e w2 ⟨hk2, hp⟩
        have HK2 := Lib.hid (HKr.out.trans hk2)
        have HZ2 := Lib.hid (HZ.out.next hk2 (by simp; omega))
        have HQ2 := Lib.hid (HQ.out.next hk2 (by simp; omega))
        clear hk2
        obtain ⟨r, HP⟩ : ∃ r, Hid (rd restk = r) := ⟨_, rfl⟩
        rw [HP.out] at hp
        rcases r with _ | ⟨x, r'⟩
        · have HN : Hid (hdP bs = none) := by
            show _ = _
            rw [hd_rep, HC.out, cont_none HP.out]
          subst hp
          unfold shortE
          go_wp2_with fail
          refine And.intro rfl ?_
          show Rp _ _ _ _ _ _ _
          unfold Rp
          rw [HN.out]
          exact ⟨HK2.out, rfl⟩
        · have HC2 := Lib.hid (HC.out.trans (cont_some HP.out))
          obtain ⟨v, rfl, hvx, hR2⟩ := hp
          unfold RInt at hvx
          subst hvx
          have okx := Lib.hid (rd_wrote _ _ _ HP.out).2
          have H2 := Lib.hid hR2
          obtain ⟨q1, q2⟩ := HQ2.out 3 (by omega)
          simp only [Nat.zero_add] at q1 q2
          have hb2 := hR2.lt
          have hs2 := HK2.out.size
          clear hR2
          go_wp2_with fail
          go_roundw
          case rel =>
            have hset := HQ2.out.set (k := 3) hyl.out.symm x (by omega)
            simp only [Nat.zero_add] at hset
            exact ⟨3 + 1, ys ++ [x], r', by omega, rfl, Lib.hid (by rw [List.length_append, hyl.out]; rfl), Lib.hid (HK2.out.setCell (.inr (by simp)) _), Lib.hid (H2.out.next (X := [w.heap.size + 1]) ((Wk.refl _ _).setCell (.inl (by simp)) _) (by simp; omega)), Lib.hid (HZ2.out.far (by omega) _), Lib.hid hset, Lib.hid (fun y hy => (List.mem_append.1 hy).elim (HY.out y) (fun h => by simp at h; subst h; exact okx.out)), HC2⟩
          case measure => simp [intOf]
    · obtain rfl : k = 4 := by omega
      have HN : Hid (hdP bs = some (⟨ys.getD 0 0, ys.getD 1 0, ys.getD 2 0, ys.getD 3 0⟩, restk)) := by
        show _ = _
        rw [hd_rep, HC.out, Nat.sub_self, cont_zero]
      obtain ⟨q0, _⟩ := HQ.out 0 (by omega)
      obtain ⟨q1, _⟩ := HQ.out 1 (by omega)
      obtain ⟨q2, _⟩ := HQ.out 2 (by omega)
      obtain ⟨q3, _⟩ := HQ.out 3 (by omega)
      obtain ⟨z0, f0⟩ := HZ.out 0 (by omega)
      obtain ⟨z1, f1⟩ := HZ.out 1 (by omega)
      obtain ⟨z2, f2⟩ := HZ.out 2 (by omega)
      obtain ⟨z3, f3⟩ := HZ.out 3 (by omega)
      simp only [Nat.zero_add] at q0 q1 q2 q3 z0 z1 z2 z3 f0 f1 f2 f3
      have hok : Hid (∀ j, j < 4 → Ok (ys.getD j 0)) := fun j hj => by
        have := hyl.out
        have hj' : j < ys.length := by omega
        have e : ys.getD j 0 = ys[j] := by simp [List.getD, hj']
        rw [e]
        exact HY.out _ (List.getElem_mem _)
      go_wp2_with fail
      refine bodyPost_ret (v := .agg #[.int .i64 (ys.getD 0 0), .int .i64 (ys.getD 1 0), .int .i64 (ys.getD 2 0), .int .i64 (ys.getD 3 0)]) (by simp [results, Try.results104, go_sem]; go_simp) rfl ?_
      unfold Rp
      rw [HN.out]
      refine ⟨((((HKr.out.setCell (.inr (Nat.le_refl _)) _).setCell (.inr (Nat.le_refl _)) _).setCell (.inr (Nat.le_refl _)) _).setCell (.inr (Nat.le_refl _)) _), _, rfl, ⟨_, rfl, rfl, hok.out 0 (by omega), hok.out 1 (by omega), hok.out 2 (by omega), hok.out 3 (by omega)⟩, HRr.out.next (X := [w.heap.size]) (((((Wk.refl _ _).setCell (.inl (by simp)) _).setCell (.inl (by simp)) _).setCell (.inl (by simp)) _).setCell (.inl (by simp)) _) (by simp; exact hlt)⟩
theorem callsR {P : Program} {fn : FuncId} {args : Array Value} {w : World} {post : Ending → World → Prop} (R : World → Prop) (hR : R w) (h : ∀ W, R W → Calls P fn args W post) : Calls P fn args w post := h w hR
theorem getD_app {ys : List Int} {x : Int} {j n : Nat} (h : ys.length = n) (hj : j < n) : (ys ++ [x]).getD j 0 = ys.getD j 0 := by
  simp only [List.getD]; rw [List.getElem?_append_left (by omega)]

/-- two nil slices, at the sixth places -/
def Sixth (w : World) (n1 n2 : Nat) : Prop := (w.cell? ⟨n1, 5, none⟩ = some (.slice none 0 0) ∧ w.frozen? ⟨n1, 5, none⟩ = false) ∧ (w.cell? ⟨n2, 5, none⟩ = some (.slice none 0 0) ∧ w.frozen? ⟨n2, 5, none⟩ = false)
theorem Sixth.next {w w' : World} {n1 n2 : Nat} (h : Sixth w n1 n2) {X : List Nat} (hk : Wk X w w') (h1 : n1 ∉ X) (h2 : n2 ∉ X) : Sixth w' n1 n2 :=
  ⟨⟨hk.cell h.1.1 h1, hk.frz h.1.2 (lt_cell' h.1.1) h1⟩, ⟨hk.cell h.2.1 h2, hk.frz h.2.2 (lt_cell' h.2.1) h2⟩⟩
theorem Sixth.set {w : World} {n1 n2 o : Nat} {x : Value} (h : Sixth w n1 n2) (h1 : n2 ≠ n1) (ho : o < 5) : Sixth (w.setCell ⟨n2, o, none⟩ x) n1 n2 := by
  have e1 : ¬ ((⟨n2, o, none⟩ : Addr) = ⟨n1, 5, none⟩) := by intro h; injection h with h; exact h1 h
  have e2 : ¬ ((⟨n2, o, none⟩ : Addr) = ⟨n2, 5, none⟩) := by intro h; injection h with _ h; omega
  refine ⟨⟨?_, ?_⟩, ⟨?_, ?_⟩⟩
  · rw [World.cell?_setCell_other _ _ _ _ e1]; exact h.1.1
  · rw [World.frozen?_setCell]; exact h.1.2
  · rw [World.cell?_setCell_other _ _ _ _ e2]; exact h.2.1
  · rw [World.frozen?_setCell]; exact h.2.2

theorem ins_rep (bs : List UInt8) : insP bs = (match Cont rd 4 [] bs with
  | none => none
  | some (l, r) => Bytes.bind rd (fun n => Bytes.bind (lstP rd) fun a => ret ⟨l.getD 0 0, l.getD 1 0, l.getD 2 0, l.getD 3 0, n, a⟩) r) := by
  rw [insP]
  cases h1 : rd bs with
  | none => rw [bind_none h1, cont_none h1]
  | some y =>
    obtain ⟨a, r1⟩ := y
    rw [bind_of h1, cont_some h1]
    cases h2 : rd r1 with
    | none => rw [bind_none h2, cont_none h2]
    | some y =>
      obtain ⟨b, r2⟩ := y
      rw [bind_of h2, cont_some h2]
      cases h3 : rd r2 with
      | none => rw [bind_none h3, cont_none h3]
      | some y =>
        obtain ⟨c, r3⟩ := y
        rw [bind_of h3, cont_some h3]
        cases h4 : rd r3 with
        | none => rw [bind_none h4, cont_none h4]
        | some y =>
          obtain ⟨d, r4⟩ := y
          rw [bind_of h4, cont_some h4, cont_zero]; rfl

set_option maxRecDepth 100000 in
set_option maxHeartbeats 8000000 in
theorem insPw (B b : Nat) (bs : List UInt8) (w : World) (h : Rdr w B b bs) (hlen : bs.length ≤ 4000000) :
    Calls Try.prog 102 #[.pointer (some ⟨b, 0, none⟩)] w (Rp (insP bs) (RS VIn w.heap.size) B b w) := by
  have hR := Lib.hid h
  have hlt := h.lt
  clear h
  have i0 : ∀ (a b c d : Value) (w : World), (Instr.index 138 (.agg #[a, b, c, d]) (.int .i64 0)).run Try.prog w = .ok a w := fun _ _ _ _ _ => by kernel_rfl
  have i1 : ∀ (a b c d : Value) (w : World), (Instr.index 138 (.agg #[a, b, c, d]) (.int .i64 1)).run Try.prog w = .ok b w := fun _ _ _ _ _ => by kernel_rfl
  have i2 : ∀ (a b c d : Value) (w : World), (Instr.index 138 (.agg #[a, b, c, d]) (.int .i64 2)).run Try.prog w = .ok c w := fun _ _ _ _ _ => by kernel_rfl
  have i3 : ∀ (a b c d : Value) (w : World), (Instr.index 138 (.agg #[a, b, c, d]) (.int .i64 3)).run Try.prog w = .ok d w := fun _ _ _ _ _ => by kernel_rfl
  go_enter Try.func102, Try.ntmps102
  go_wp2_with fail
  go_loopw [11] (fun i wr => ∃ (k : Nat) (ys : List Int) (restk : List UInt8), k ≤ 4 ∧ restk.length ≤ 4000000 ∧ i = .int .i64 k ∧ Hid (ys.length = k) ∧ Hid (Wk [b] w wr) ∧ Hid (Rdr wr B b restk) ∧ Hid (Quad wr w.heap.size 0 5 []) ∧ Hid (Quad wr (w.heap.size + 1) 0 5 ys) ∧ Hid (Sixth wr w.heap.size (w.heap.size + 1)) ∧ Hid (∀ y ∈ ys, Ok y) ∧ Hid (Cont rd 4 [] bs = Cont rd (4 - k) ys restk)) (fun i _ => 4 - (intOf i).toNat)
  case atStart =>
    refine ⟨0, [], bs, by omega, hlen, rfl, rfl, Lib.hid (((Wk.refl _ _).alloc _).alloc _), Lib.hid ((hR.out.alloc _).alloc _), ?_, ?_, ?_, fun y hy => absurd hy (by simp), rfl⟩
    · show Quad _ _ _ _ _
      intro j hj
      match j, hj with
      | 0, _ => exact ⟨by go_simp; try rfl, by go_simp⟩
      | 1, _ => exact ⟨by go_simp; try rfl, by go_simp⟩
      | 2, _ => exact ⟨by go_simp; try rfl, by go_simp⟩
      | 3, _ => exact ⟨by go_simp; try rfl, by go_simp⟩
      | 4, _ => exact ⟨by go_simp; try rfl, by go_simp⟩
    · show Quad _ _ _ _ _
      intro j hj
      match j, hj with
      | 0, _ => exact ⟨by go_simp; try rfl, by go_simp⟩
      | 1, _ => exact ⟨by go_simp; try rfl, by go_simp⟩
      | 2, _ => exact ⟨by go_simp; try rfl, by go_simp⟩
      | 3, _ => exact ⟨by go_simp; try rfl, by go_simp⟩
      | 4, _ => exact ⟨by go_simp; try rfl, by go_simp⟩
    · show Sixth _ _ _
      exact ⟨⟨by go_simp, by go_simp⟩, ⟨by go_simp, by go_simp⟩⟩
  case round =>
    obtain ⟨k, ys, restk, hk, hrk, rfl, hyl, HKr, HRr, HZ, HQ, H5, HY, HC⟩ := hrel
    have hsz := HKr.out.size
    by_cases hlt2 : k < 4
    · have hcase : k = 0 ∨ k = 1 ∨ k = 2 ∨ k = 3 := by omega
      rcases hcase with rfl | rfl | rfl | rfl
      · go_wp2_with fail
        refine (numP B b restk _ HRr.out).mono ?_
        rintro e w2 ⟨hk2, hp⟩
        have HK2 := Lib.hid (HKr.out.trans hk2)
        have HZ2 := Lib.hid (HZ.out.next hk2 (by simp; omega))
        have HQ2 := Lib.hid (HQ.out.next hk2 (by simp; omega))
        have H52 := Lib.hid (H5.out.next hk2 (by simp; omega) (by simp; omega))
        clear hk2
        obtain ⟨r, HP⟩ : ∃ r, Hid (rd restk = r) := ⟨_, rfl⟩
        rw [HP.out] at hp
        rcases r with _ | ⟨x, r'⟩
        · have HN : Hid (insP bs = none) := by
            show _ = _
            rw [ins_rep, HC.out, cont_none HP.out]
          subst hp
          unfold shortE
          go_wp2_with fail
          refine And.intro rfl ?_
          show Rp _ _ _ _ _ _ _
          unfold Rp
          rw [HN.out]
          exact ⟨HK2.out, rfl⟩
        · have HC2 := Lib.hid (HC.out.trans (cont_some HP.out))
          obtain ⟨v, rfl, hvx, hR2⟩ := hp
          unfold RInt at hvx
          subst hvx
          have okx := Lib.hid (rd_wrote _ _ _ HP.out).2
          have hea := eats_rd _ _ _ HP.out
          have H2 := Lib.hid hR2
          obtain ⟨q1, q2⟩ := HQ2.out 0 (by omega)
          simp only [Nat.zero_add] at q1 q2
          have hb2 := hR2.lt
          have hs2 := HK2.out.size
          clear hR2
          go_wp2_with fail
          go_roundw
          case rel =>
            have hset := HQ2.out.set (k := 0) hyl.out.symm x (by omega)
            simp only [Nat.zero_add] at hset
            exact ⟨0 + 1, ys ++ [x], r', by omega, by omega, rfl, Lib.hid (by rw [List.length_append, hyl.out]; rfl), Lib.hid (HK2.out.setCell (.inr (by simp)) _), Lib.hid (H2.out.next (X := [w.heap.size + 1]) ((Wk.refl _ _).setCell (.inl (by simp)) _) (by simp; omega)), Lib.hid (HZ2.out.far (by omega) _), Lib.hid hset, Lib.hid (H52.out.set (by omega) (by omega)), Lib.hid (fun y hy => (List.mem_append.1 hy).elim (HY.out y) (fun h => by simp at h; subst h; exact okx.out)), HC2⟩
          case measure => simp [intOf]
      · go_wp2_with fail
        refine (numP B b restk _ HRr.out).mono ?_
        rintro e w2 ⟨hk2, hp⟩
        have HK2 := Lib.hid (HKr.out.trans hk2)
        have HZ2 := Lib.hid (HZ.out.next hk2 (by simp; omega))
        have HQ2 := Lib.hid (HQ.out.next hk2 (by simp; omega))
        have H52 := Lib.hid (H5.out.next hk2 (by simp; omega) (by simp; omega))
        clear hk2
        obtain ⟨r, HP⟩ : ∃ r, Hid (rd restk = r) := ⟨_, rfl⟩
        rw [HP.out] at hp
        rcases r with _ | ⟨x, r'⟩
        · have HN : Hid (insP bs = none) := by
            show _ = _
            rw [ins_rep, HC.out, cont_none HP.out]
          subst hp
          unfold shortE
          go_wp2_with fail
          refine And.intro rfl ?_
          show Rp _ _ _ _ _ _ _
          unfold Rp
          rw [HN.out]
          exact ⟨HK2.out, rfl⟩
        · have HC2 := Lib.hid (HC.out.trans (cont_some HP.out))
          obtain ⟨v, rfl, hvx, hR2⟩ := hp
          unfold RInt at hvx
          subst hvx
          have okx := Lib.hid (rd_wrote _ _ _ HP.out).2
          have hea := eats_rd _ _ _ HP.out
          have H2 := Lib.hid hR2
          obtain ⟨q1, q2⟩ := HQ2.out 1 (by omega)
          simp only [Nat.zero_add] at q1 q2
          have hb2 := hR2.lt
          have hs2 := HK2.out.size
          clear hR2
          go_wp2_with fail
          go_roundw
          case rel =>
            have hset := HQ2.out.set (k := 1) hyl.out.symm x (by omega)
            simp only [Nat.zero_add] at hset
            exact ⟨1 + 1, ys ++ [x], r', by omega, by omega, rfl, Lib.hid (by rw [List.length_append, hyl.out]; rfl), Lib.hid (HK2.out.setCell (.inr (by simp)) _), Lib.hid (H2.out.next (X := [w.heap.size + 1]) ((Wk.refl _ _).setCell (.inl (by simp)) _) (by simp; omega)), Lib.hid (HZ2.out.far (by omega) _), Lib.hid hset, Lib.hid (H52.out.set (by omega) (by omega)), Lib.hid (fun y hy => (List.mem_append.1 hy).elim (HY.out y) (fun h => by simp at h; subst h; exact okx.out)), HC2⟩
          case measure => simp [intOf]
      · go_wp2_with fail
        refine (numP B b restk _ HRr.out).mono ?_
        rintro e w2 ⟨hk2, hp⟩
        have HK2 := Lib.hid (HKr.out.trans hk2)
        have HZ2 := Lib.hid (HZ.out.next hk2 (by simp; omega))
        have HQ2 := Lib.hid (HQ.out.next hk2 (by simp; omega))
        have H52 := Lib.hid (H5.out.next hk2 (by simp; omega) (by simp; omega))
        clear hk2
        obtain ⟨r, HP⟩ : ∃ r, Hid (rd restk = r) := ⟨_, rfl⟩
        rw [HP.out] at hp
        rcases r with _ | ⟨x, r'⟩
        · have HN : Hid (insP bs = none) := by
            show _ = _
            rw [ins_rep, HC.out, cont_none HP.out]
          subst hp
          unfold shortE
          go_wp2_with fail
          refine And.intro rfl ?_
          show Rp _ _ _ _ _ _ _
          unfold Rp
          rw [HN.out]
          exact ⟨HK2.out, rfl⟩
        · have HC2 := Lib.hid (HC.out.trans (cont_some HP.out))
          obtain ⟨v, rfl, hvx, hR2⟩ := hp
          unfold RInt at hvx
          subst hvx
          have okx := Lib.hid (rd_wrote _ _ _ HP.out).2
          have hea := eats_rd _ _ _ HP.out
          have H2 := Lib.hid hR2
          obtain ⟨q1, q2⟩ := HQ2.out 2 (by omega)
          simp only [Nat.zero_add] at q1 q2
          have hb2 := hR2.lt
          have hs2 := HK2.out.size
          clear hR2
          go_wp2_with fail
          go_roundw
          case rel =>
            have hset := HQ2.out.set (k := 2) hyl.out.symm x (by omega)
            simp only [Nat.zero_add] at hset
            exact ⟨2 + 1, ys ++ [x], r', by omega, by omega, rfl, Lib.hid (by rw [List.length_append, hyl.out]; rfl), Lib.hid (HK2.out.setCell (.inr (by simp)) _), Lib.hid (H2.out.next (X := [w.heap.size + 1]) ((Wk.refl _ _).setCell (.inl (by simp)) _) (by simp; omega)), Lib.hid (HZ2.out.far (by omega) _), Lib.hid hset, Lib.hid (H52.out.set (by omega) (by omega)), Lib.hid (fun y hy => (List.mem_append.1 hy).elim (HY.out y) (fun h => by simp at h; subst h; exact okx.out)), HC2⟩
          case measure => simp [intOf]
      · go_wp2_with fail
        refine (numP B b restk _ HRr.out).mono ?_
        rintro e w2 ⟨hk2, hp⟩
        have HK2 := Lib.hid (HKr.out.trans hk2)
        have HZ2 := Lib.hid (HZ.out.next hk2 (by simp; omega))
        have HQ2 := Lib.hid (HQ.out.next hk2 (by simp; omega))
        have H52 := Lib.hid (H5.out.next hk2 (by simp; omega) (by simp; omega))
        clear hk2
        obtain ⟨r, HP⟩ : ∃ r, Hid (rd restk = r) := ⟨_, rfl⟩
        rw [HP.out] at hp
        rcases r with _ | ⟨x, r'⟩
        · have HN : Hid (insP bs = none) := by
            show _ = _
            rw [ins_rep, HC.out, cont_none HP.out]
          subst hp
          unfold shortE
          go_wp2_with fail
          refine And.intro rfl ?_
          show Rp _ _ _ _ _ _ _
          unfold Rp
          rw [HN.out]
          exact ⟨HK2.out, rfl⟩
        · have HC2 := Lib.hid (HC.out.trans (cont_some HP.out))
          obtain ⟨v, rfl, hvx, hR2⟩ := hp
          unfold RInt at hvx
          subst hvx
          have okx := Lib.hid (rd_wrote _ _ _ HP.out).2
          have hea := eats_rd _ _ _ HP.out
          have H2 := Lib.hid hR2
          obtain ⟨q1, q2⟩ := HQ2.out 3 (by omega)
          simp only [Nat.zero_add] at q1 q2
          have hb2 := hR2.lt
          have hs2 := HK2.out.size
          clear hR2
          go_wp2_with fail
          go_roundw
          case rel =>
            have hset := HQ2.out.set (k := 3) hyl.out.symm x (by omega)
            simp only [Nat.zero_add] at hset
            exact ⟨3 + 1, ys ++ [x], r', by omega, by omega, rfl, Lib.hid (by rw [List.length_append, hyl.out]; rfl), Lib.hid (HK2.out.setCell (.inr (by simp)) _), Lib.hid (H2.out.next (X := [w.heap.size + 1]) ((Wk.refl _ _).setCell (.inl (by simp)) _) (by simp; omega)), Lib.hid (HZ2.out.far (by omega) _), Lib.hid hset, Lib.hid (H52.out.set (by omega) (by omega)), Lib.hid (fun y hy => (List.mem_append.1 hy).elim (HY.out y) (fun h => by simp at h; subst h; exact okx.out)), HC2⟩
          case measure => simp [intOf]
    · obtain rfl : k = 4 := by omega
      have HN : Hid (insP bs = Bytes.bind rd (fun n => Bytes.bind (lstP rd) fun a => ret ⟨ys.getD 0 0, ys.getD 1 0, ys.getD 2 0, ys.getD 3 0, n, a⟩) restk) := by
        show _ = _
        rw [ins_rep, HC.out, Nat.sub_self, cont_zero]
      have hok : Hid (∀ j, j < 4 → Ok (ys.getD j 0)) := fun j hj => by
        have := hyl.out
        have hj' : j < ys.length := by omega
        have e : ys.getD j 0 = ys[j] := by simp [List.getD, hj']
        rw [e]
        exact HY.out _ (List.getElem_mem _)
      go_wp2_with fail
      refine (wideP B b restk _ HRr.out).mono ?_
      rintro e w2 ⟨hk2, hp⟩
      have HK2 := Lib.hid (HKr.out.trans hk2)
      have HZ2 := Lib.hid (HZ.out.next hk2 (by simp; omega))
      have HQ2 := Lib.hid (HQ.out.next hk2 (by simp; omega))
      have H52 := Lib.hid (H5.out.next hk2 (by simp; omega) (by simp; omega))
      clear hk2
      obtain ⟨r, HP⟩ : ∃ r, Hid (rd restk = r) := ⟨_, rfl⟩
      rw [HP.out] at hp
      rcases r with _ | ⟨x, r'⟩
      · have HN2 : Hid (insP bs = none) := HN.out.trans (bind_none HP.out)
        subst hp
        unfold shortE
        go_wp2_with fail
        refine And.intro rfl ?_
        show Rp _ _ _ _ _ _ _
        unfold Rp
        rw [HN2.out]
        exact ⟨HK2.out, rfl⟩
      · have HN2 : Hid (insP bs = Bytes.bind (lstP rd) (fun a => ret ⟨ys.getD 0 0, ys.getD 1 0, ys.getD 2 0, ys.getD 3 0, x, a⟩) r') := HN.out.trans (bind_of HP.out)
        obtain ⟨v, rfl, hvx, hR2⟩ := hp
        unfold RInt at hvx
        subst hvx
        have okx := Lib.hid (rd_wrote _ _ _ HP.out).2
        have hea := eats_rd _ _ _ HP.out
        have H2 := Lib.hid hR2
        obtain ⟨q1, q2⟩ := HQ2.out 4 (by omega)
        simp only [Nat.zero_add] at q1 q2
        have hs2 := HK2.out.size
        clear hR2
        have hset := HQ2.out.set (k := 4) hyl.out.symm x (by omega)
        simp only [Nat.zero_add] at hset
        have HQ3 := Lib.hid hset
        have HZ3 := Lib.hid (HZ2.out.far (b2 := w.heap.size + 1) (o2 := 4) (by omega) (.int .i64 x))
        have H53 := Lib.hid (H52.out.set (o := 4) (x := .int .i64 x) (by omega) (by omega))
        have HK3 := Lib.hid (HK2.out.setCell (p := ⟨w.heap.size + 1, 4, none⟩) (.inr (by simp)) (.int .i64 x))
        have H3 := Lib.hid (H2.out.next (X := [w.heap.size + 1]) ((Wk.refl _ _).setCell (p := ⟨w.heap.size + 1, 4, none⟩) (.inl (by simp)) (.int .i64 x)) (by simp; omega))
        clear hset
        go_wp2_with fail
        refine callsR (fun W => Hid (Wk [b] w W) ∧ Hid (Rdr W B b r') ∧ Hid (Quad W w.heap.size 0 5 []) ∧ Hid (Quad W (w.heap.size + 1) 0 5 (ys ++ [x])) ∧ Hid (Sixth W w.heap.size (w.heap.size + 1))) ⟨HK3, H3, HZ3, HQ3, H53⟩ ?_
        rintro W ⟨HK4, H4, HZ4, HQ4, H54⟩
        clear HK3 H3 HZ3 HQ3 H53 HQ2 HZ2 H52 H2 q1 q2
        refine (itemsInt B b r' W H4.out (by omega)).mono ?_
        rintro e w5 ⟨hk5, hp⟩
        have HK5 := Lib.hid (HK4.out.trans hk5)
        have HZ5 := Lib.hid (HZ4.out.next hk5 (by simp; omega))
        have HQ5 := Lib.hid (HQ4.out.next hk5 (by simp; omega))
        have H55 := Lib.hid (H54.out.next hk5 (by simp; omega) (by simp; omega))
        have hW := HK4.out.size
        have hWq := lt_cell' H54.out.2.1
        clear hk5
        obtain ⟨r, HP2⟩ : ∃ r, Hid (lstP rd r' = r) := ⟨_, rfl⟩
        rw [HP2.out] at hp
        rcases r with _ | ⟨l, r5⟩
        · have HN3 : Hid (insP bs = none) := HN2.out.trans (bind_none HP2.out)
          subst hp
          unfold shortE
          go_wp2_with fail
          refine And.intro rfl ?_
          show Rp _ _ _ _ _ _ _
          unfold Rp
          rw [HN3.out]
          exact ⟨HK5.out, rfl⟩
        · have HN3 : Hid (insP bs = some (⟨ys.getD 0 0, ys.getD 1 0, ys.getD 2 0, ys.getD 3 0, x, l⟩, r5)) := HN2.out.trans (bind_of HP2.out)
          obtain ⟨v, rfl, hsl, hR5⟩ := hp
          have HSL := Lib.hid hsl
          obtain ⟨aa, acap, rfl, _, _, _⟩ := hsl
          have H6 := Lib.hid hR5
          obtain ⟨⟨s1, s2⟩, ⟨s3, s4⟩⟩ := H55.out
          obtain ⟨q0, _⟩ := HQ5.out 0 (by omega)
          obtain ⟨q1, _⟩ := HQ5.out 1 (by omega)
          obtain ⟨q2, _⟩ := HQ5.out 2 (by omega)
          obtain ⟨q3, _⟩ := HQ5.out 3 (by omega)
          obtain ⟨q4, _⟩ := HQ5.out 4 (by omega)
          obtain ⟨z0, f0⟩ := HZ5.out 0 (by omega)
          obtain ⟨z1, f1⟩ := HZ5.out 1 (by omega)
          obtain ⟨z2, f2⟩ := HZ5.out 2 (by omega)
          obtain ⟨z3, f3⟩ := HZ5.out 3 (by omega)
          obtain ⟨z4, f4⟩ := HZ5.out 4 (by omega)
          simp only [Nat.zero_add] at q0 q1 q2 q3 q4 z0 z1 z2 z3 z4 f0 f1 f2 f3 f4
          have e0 : Hid ((ys ++ [x]).getD 0 0 = ys.getD 0 0) := getD_app hyl.out (by omega)
          have e1 : Hid ((ys ++ [x]).getD 1 0 = ys.getD 1 0) := getD_app hyl.out (by omega)
          have e2 : Hid ((ys ++ [x]).getD 2 0 = ys.getD 2 0) := getD_app hyl.out (by omega)
          have e3 : Hid ((ys ++ [x]).getD 3 0 = ys.getD 3 0) := getD_app hyl.out (by omega)
          have e4 : Hid ((ys ++ [x]).getD 4 0 = x) := by show _ = _; have := hyl.out; simp [List.getD, ← this]
          rw [e0.out] at q0; rw [e1.out] at q1; rw [e2.out] at q2; rw [e3.out] at q3; rw [e4.out] at q4
          have hNN : ¬ w.heap.size = w.heap.size + 1 := by omega
          clear hR5
          go_wp2_with fail
          refine bodyPost_ret (v := .agg #[.int .i64 (ys.getD 0 0), .int .i64 (ys.getD 1 0), .int .i64 (ys.getD 2 0), .int .i64 (ys.getD 3 0), .int .i64 x, .slice aa l.length acap]) (by simp [results, Try.results102, go_sem]; go_simp) rfl ?_
          unfold Rp
          rw [HN3.out]
          have hfin : Wk [w.heap.size, w.heap.size + 1] w5 _ := (((((((Wk.refl [w.heap.size, w.heap.size + 1] w5).setCell (p := ⟨w.heap.size + 1, 5, none⟩) (.inl (by simp)) (.slice aa l.length acap)).setCell (p := ⟨w.heap.size, 0, none⟩) (.inl (by simp)) (.int .i64 (ys.getD 0 0))).setCell (p := ⟨w.heap.size, 1, none⟩) (.inl (by simp)) (.int .i64 (ys.getD 1 0))).setCell (p := ⟨w.heap.size, 2, none⟩) (.inl (by simp)) (.int .i64 (ys.getD 2 0))).setCell (p := ⟨w.heap.size, 3, none⟩) (.inl (by simp)) (.int .i64 (ys.getD 3 0))).setCell (p := ⟨w.heap.size, 4, none⟩) (.inl (by simp)) (.int .i64 x)).setCell (p := ⟨w.heap.size, 5, none⟩) (.inl (by simp)) (.slice aa l.length acap)
          have hz5 := hfin.size
          refine ⟨HK5.out.trans' hfin (fun y hy => .inr (by simp at hy; omega)), _, rfl, ⟨_, rfl, _, rfl, ⟨hok.out 0 (by omega), hok.out 1 (by omega), hok.out 2 (by omega), hok.out 3 (by omega), okx.out⟩, HSL.out.stays sInt (fun k hk => ?_)⟩, H6.out.next hfin (fun y hy => by simp at hy; omega)⟩
          obtain ⟨k1, k2⟩ := hk
          exact ⟨⟨by omega, Nat.lt_of_lt_of_le k2 hz5⟩, hfin.block k k2 (by simp; omega)⟩
end Wire
end Go.Proofs.Ytncmhenfgbcihaa

/- Reading bytes: lists of handlers and instructions; classes, methods, and lists of them. -/
namespace Go.Proofs.Ytncmhenfgbcihaa
open Go.RowKit
set_option linter.unusedSimpArgs false
set_option linter.unusedVariables false
namespace Wire
open Num Rd D Bytes HierW

theorem info_Hd : (Try.prog.info? 89).map (fun i => (i.zero, i.size, i.bytes)) = some (some (.agg #[.int .i64 0, .int .i64 0, .int .i64 0, .int .i64 0]), 4, 32) := by kernel_rfl
set_option maxRecDepth 100000 in
set_option maxHeartbeats 4000000 in
theorem itemsHd (B b : Nat) (bs : List UInt8) (w : World) (h : Rdr w B b bs) (hlen : bs.length ≤ 4000000) :
    Calls Try.prog 103 #[.pointer (some ⟨b, 0, none⟩), .func (Fn.func 104) #[.pointer (some ⟨b, 0, none⟩)] #[]] w (Rp (lstP hdP bs) (RL VHd 4 w.heap.size) B b w) := by
  obtain ⟨i0, hi, hz0, hz1, hz2⟩ := info_parts info_Hd
  have hR := Lib.hid h
  have hlt := h.lt
  clear h
  go_enter Try.func103, Try.ntmps103
  go_wp2_with fail
  refine (numP B b bs _ hR.out).mono ?_
  rintro e w1 ⟨hk, hp⟩
  have HK := Lib.hid hk
  have hw1s := hk.size
  clear hk
  obtain ⟨r, HR⟩ : ∃ r, Hid (rd bs = r) := ⟨_, rfl⟩
  rw [HR.out] at hp
  rcases r with _ | ⟨n, rest⟩
  · have HQ : Hid (lstP hdP bs = none) := lst_none HR.out
    subst hp
    unfold shortE
    go_wp2_with fail
    refine And.intro rfl ?_
    show Rp _ _ _ _ _ _ _
    unfold Rp
    rw [HQ.out]
    exact ⟨HK.out, rfl⟩
  obtain ⟨v, rfl, hvn, hR1⟩ := hp
  unfold RInt at hvn
  subst hvn
  have H1 := Lib.hid hR1
  have hrl := eats_rd _ _ _ HR.out
  have hlt1 := hR1.lt
  obtain ⟨hB, v, hc, hf, a, cap, rfl, hlc, hcc, _⟩ := hR1
  have okn := (rd_wrote _ _ _ HR.out).2
  unfold Ok at okn
  by_cases hneg : n < 0
  · have HQ : Hid (lstP hdP bs = none) := lst_neg HR.out hneg
    have hnb : decide (n < 0) = true := by simp [hneg]
    go_wp2_with fail
    refine And.intro rfl ?_
    show Rp _ _ _ _ _ _ _
    unfold Rp
    rw [HQ.out]
    exact ⟨HK.out, rfl⟩
  have hneg2 : 0 ≤ n := by omega
  have hnb : decide (n < 0) = false := by simp [hneg2]
  by_cases hbig : (rest.length : Int) / 8 < n
  · have HQ : Hid (lstP hdP bs = none) := lst_big eats_hd HR.out hbig
    have hbb : decide ((rest.length : Int) / 8 < n) = true := by simp [hbig]
    go_wp2_with fail
    refine And.intro rfl ?_
    show Rp _ _ _ _ _ _ _
    unfold Rp
    rw [HQ.out]
    exact ⟨HK.out, rfl⟩
  have hbb : decide ((rest.length : Int) / 8 < n) = false := by simp; omega
  have HQ0 := Lib.hid (cont_start (p := hdP) HR.out (by omega))
  have hn5 : n ≤ 500000 := by omega
  go_wp2_with fail
  clear hnb hbb hc hf hlc hcc
  go_loopw [6, 24] (fun v i wr => ∃ (k : Nat) (acc : List Hd) (xs : List Value) (restk : List UInt8), (k : Int) ≤ n ∧ restk.length ≤ 4000000 ∧ i = .int .i64 k ∧ Hid (acc.length = k) ∧ Hid (Wk [b] w wr) ∧ Hid (Rdr wr B b restk) ∧ Hid (wr.ownsRow w.heap.size 89 4 v acc.length xs) ∧ Hid (Row VHd 4 wr (Rw w.heap.size wr v) xs acc) ∧ Hid (lstP hdP bs = Cont hdP (n.toNat - k) acc restk)) (fun _ i _ => n.toNat - (intOf i).toNat)
  case atStart => exact ⟨0, [], [], rest, by omega, by omega, rfl, rfl, HK, H1, World.ownsRow_nil _ _ _ _, Row.nil _ _ _ _, HQ0⟩
  case round =>
    obtain ⟨k, acc, xs, restk, hk, hrk, rfl, hacc, HKr, HRr, HOr, HWr, HQr⟩ := hrel
    have hsz := HKr.out.size
    have hbl := HRr.out.lt
    have hal : acc.length ≤ 500000 := by have := hacc.out; omega
    by_cases hlt2 : (k : Int) < n
    · go_wp2_with fail
      refine (handlerP B b restk _ HRr.out).mono ?_
      rintro e w2 ⟨hk2, hp⟩
      have hk2s := hk2.size
      have HKc := Lib.hid hk2
      have HK2 := Lib.hid (HKr.out.trans hk2)
      clear hk2
      obtain ⟨r, HP⟩ : ∃ r, Hid (hdP restk = r) := ⟨_, rfl⟩
      rw [HP.out] at hp
      rcases r with _ | ⟨x, r'⟩
      · have HQ2 : Hid (lstP hdP bs = none) := HQr.out.trans (by rw [show n.toNat - k = (n.toNat - (k + 1)) + 1 by omega]; exact cont_none HP.out)
        subst hp
        unfold shortE
        go_wp2_with fail
        refine And.intro rfl ?_
        show Rp _ _ _ _ _ _ _
        unfold Rp
        rw [HQ2.out]
        exact ⟨HK2.out, rfl⟩
      · have HQ2 : Hid (lstP hdP bs = Cont hdP (n.toNat - (k + 1)) (acc ++ [x]) r') := HQr.out.trans (by rw [show n.toNat - k = (n.toNat - (k + 1)) + 1 by omega]; exact cont_some HP.out)
        have her := eats_hd _ _ _ HP.out
        obtain ⟨v, rfl, ⟨cs, rfl, hV⟩, hR2⟩ := hp
        have hV' := Lib.hid hV
        obtain ⟨rfl, okx⟩ := hV
        have hV := hV'.out
        clear hV'
        have HV := Lib.hid hV
        have H2 := Lib.hid hR2
        have HO2 := Lib.hid (own_keep HOr.out HKc.out (by simp; exact fun g hg e => by have := (HOr.out.lt g hg).1; omega))
        clear hV hR2
        go_wp2_with (at_builtin; refine wpList_append_lies _ rfl (.tmp 26) (.tmp 29) 47 rfl w.heap.size 89 i0 (.agg #[.int .i64 0, .int .i64 0, .int .i64 0, .int .i64 0]) 4 32 Try.underlying47 hi hz0 hz1 hz2 rfl (by decide) _ acc.length xs (by simp [Act.eval, Act.put]) (HO2.out.alloc _) ⟨w2.heap.size, 0, none⟩ 1 1 [.int .i64 x.lo, .int .i64 x.hi, .int .i64 x.go, .int .i64 x.cls] (by simp [Act.eval, Act.put]) rfl (by exact news_at _ _ _) (by simp [Value.oneCell']) (by decide) (by unfold maxLen; omega) (by omega) (by simp; omega) _ rfl ?_; intro g2 cap2 w3 hown3 hgrow3 hat3 hlt3; have HA := Lib.hid (item_added HK2.out H2.out HO2.out HWr.out HKc.out hlt hsz (fun g hg => (HOr.out.lt g hg).2) HV.out sHd rfl hown3 hgrow3 hat3); clear hown3 hgrow3 hat3)
        obtain ⟨a1, a2, a3, a4⟩ := HA.out
        have A1 := Lib.hid a1; have A2 := Lib.hid a2; have A3 := Lib.hid a3; have A4 := Lib.hid a4
        clear a1 a2 a3 a4 HA hlt3
        have hlen2 : acc.length + 1 = (acc ++ [x]).length := by simp
        have HL2 := Lib.hid hlen2
        clear hlen2
        go_wp2_with fail
        go_roundw
        case rel => exact ⟨k + 1, acc ++ [x], _, r', by omega, by omega, by go_num, Lib.hid (by have := hacc.out; simp; omega), A1, A2, A3, A4, HQ2⟩
        case measure => simp [intOf]; omega
    · have hkn : n.toNat - k = 0 := by omega
      have HQ2 : Hid (lstP hdP bs = some (acc, restk)) := HQr.out.trans (by rw [hkn]; exact cont_zero _ _ _)
      have HS := Lib.hid (Row.sl sHd HWr.out HOr.out (by omega) (P' := Nw w.heap.size _) (fun k hk => ⟨hk.1, hk.2.1⟩) (fun g hg => HOr.out.lt g hg))
      clear hkn
      go_wp2_with fail
      go_ret
      unfold Rp
      rw [HQ2.out]
      exact ⟨HKr.out, _, rfl, HS.out, HRr.out⟩


theorem info_In : (Try.prog.info? 43).map (fun i => (i.zero, i.size, i.bytes)) = some (some (.agg #[.int .i64 0, .int .i64 0, .int .i64 0, .int .i64 0, .int .i64 0, .slice none 0 0]), 6, 64) := by kernel_rfl
set_option maxRecDepth 100000 in
set_option maxHeartbeats 4000000 in
theorem itemsIn (B b : Nat) (bs : List UInt8) (w : World) (h : Rdr w B b bs) (hlen : bs.length ≤ 4000000) :
    Calls Try.prog 101 #[.pointer (some ⟨b, 0, none⟩), .func (Fn.func 102) #[.pointer (some ⟨b, 0, none⟩)] #[]] w (Rp (lstP insP bs) (RL VIn 6 w.heap.size) B b w) := by
  obtain ⟨i0, hi, hz0, hz1, hz2⟩ := info_parts info_In
  have hR := Lib.hid h
  have hlt := h.lt
  clear h
  go_enter Try.func101, Try.ntmps101
  go_wp2_with fail
  refine (numP B b bs _ hR.out).mono ?_
  rintro e w1 ⟨hk, hp⟩
  have HK := Lib.hid hk
  have hw1s := hk.size
  clear hk
  obtain ⟨r, HR⟩ : ∃ r, Hid (rd bs = r) := ⟨_, rfl⟩
  rw [HR.out] at hp
  rcases r with _ | ⟨n, rest⟩
  · have HQ : Hid (lstP insP bs = none) := lst_none HR.out
    subst hp
    unfold shortE
    go_wp2_with fail
    refine And.intro rfl ?_
    show Rp _ _ _ _ _ _ _
    unfold Rp
    rw [HQ.out]
    exact ⟨HK.out, rfl⟩
  obtain ⟨v, rfl, hvn, hR1⟩ := hp
  unfold RInt at hvn
  subst hvn
  have H1 := Lib.hid hR1
  have hrl := eats_rd _ _ _ HR.out
  have hlt1 := hR1.lt
  obtain ⟨hB, v, hc, hf, a, cap, rfl, hlc, hcc, _⟩ := hR1
  have okn := (rd_wrote _ _ _ HR.out).2
  unfold Ok at okn
  by_cases hneg : n < 0
  · have HQ : Hid (lstP insP bs = none) := lst_neg HR.out hneg
    have hnb : decide (n < 0) = true := by simp [hneg]
    go_wp2_with fail
    refine And.intro rfl ?_
    show Rp _ _ _ _ _ _ _
    unfold Rp
    rw [HQ.out]
    exact ⟨HK.out, rfl⟩
  have hneg2 : 0 ≤ n := by omega
  have hnb : decide (n < 0) = false := by simp [hneg2]
  by_cases hbig : (rest.length : Int) / 8 < n
  · have HQ : Hid (lstP insP bs = none) := lst_big eats_ins HR.out hbig
    have hbb : decide ((rest.length : Int) / 8 < n) = true := by simp [hbig]
    go_wp2_with fail
    refine And.intro rfl ?_
    show Rp _ _ _ _ _ _ _
    unfold Rp
    rw [HQ.out]
    exact ⟨HK.out, rfl⟩
  have hbb : decide ((rest.length : Int) / 8 < n) = false := by simp; omega
  have HQ0 := Lib.hid (cont_start (p := insP) HR.out (by omega))
  have hn5 : n ≤ 500000 := by omega
  go_wp2_with fail
  clear hnb hbb hc hf hlc hcc
  go_loopw [6, 24] (fun v i wr => ∃ (k : Nat) (acc : List Ins) (xs : List Value) (restk : List UInt8), (k : Int) ≤ n ∧ restk.length ≤ 4000000 ∧ i = .int .i64 k ∧ Hid (acc.length = k) ∧ Hid (Wk [b] w wr) ∧ Hid (Rdr wr B b restk) ∧ Hid (wr.ownsRow w.heap.size 43 6 v acc.length xs) ∧ Hid (Row VIn 6 wr (Rw w.heap.size wr v) xs acc) ∧ Hid (lstP insP bs = Cont insP (n.toNat - k) acc restk)) (fun _ i _ => n.toNat - (intOf i).toNat)
  case atStart => exact ⟨0, [], [], rest, by omega, by omega, rfl, rfl, HK, H1, World.ownsRow_nil _ _ _ _, Row.nil _ _ _ _, HQ0⟩
  case round =>
    obtain ⟨k, acc, xs, restk, hk, hrk, rfl, hacc, HKr, HRr, HOr, HWr, HQr⟩ := hrel
    have hsz := HKr.out.size
    have hbl := HRr.out.lt
    have hal : acc.length ≤ 500000 := by have := hacc.out; omega
    by_cases hlt2 : (k : Int) < n
    · go_wp2_with fail
      refine (insPw B b restk _ HRr.out (by omega)).mono ?_
      rintro e w2 ⟨hk2, hp⟩
      have hk2s := hk2.size
      have HKc := Lib.hid hk2
      have HK2 := Lib.hid (HKr.out.trans hk2)
      clear hk2
      obtain ⟨r, HP⟩ : ∃ r, Hid (insP restk = r) := ⟨_, rfl⟩
      rw [HP.out] at hp
      rcases r with _ | ⟨x, r'⟩
      · have HQ2 : Hid (lstP insP bs = none) := HQr.out.trans (by rw [show n.toNat - k = (n.toNat - (k + 1)) + 1 by omega]; exact cont_none HP.out)
        subst hp
        unfold shortE
        go_wp2_with fail
        refine And.intro rfl ?_
        show Rp _ _ _ _ _ _ _
        unfold Rp
        rw [HQ2.out]
        exact ⟨HK2.out, rfl⟩
      · have HQ2 : Hid (lstP insP bs = Cont insP (n.toNat - (k + 1)) (acc ++ [x]) r') := HQr.out.trans (by rw [show n.toNat - k = (n.toNat - (k + 1)) + 1 by omega]; exact cont_some HP.out)
        have her := eats_ins _ _ _ HP.out
        obtain ⟨v, rfl, ⟨cs, rfl, hV⟩, hR2⟩ := hp
        have hV' := Lib.hid hV
        obtain ⟨va, rfl, okx, sva⟩ := hV
        have hV := hV'.out
        clear hV'
        obtain ⟨aa0, cap0, hva, _, _, _⟩ := sva
        subst hva
        have HV := Lib.hid hV
        have H2 := Lib.hid hR2
        have HO2 := Lib.hid (own_keep HOr.out HKc.out (by simp; exact fun g hg e => by have := (HOr.out.lt g hg).1; omega))
        clear hV hR2
        go_wp2_with (at_builtin; refine wpList_append_lies _ rfl (.tmp 26) (.tmp 29) 44 rfl w.heap.size 43 i0 (.agg #[.int .i64 0, .int .i64 0, .int .i64 0, .int .i64 0, .int .i64 0, .slice none 0 0]) 6 64 Try.underlying44 hi hz0 hz1 hz2 rfl (by decide) _ acc.length xs (by simp [Act.eval, Act.put]) (HO2.out.alloc _) ⟨w2.heap.size, 0, none⟩ 1 1 [.int .i64 x.op, .int .i64 x.a, .int .i64 x.b, .int .i64 x.c, .int .i64 x.n, .slice aa0 x.args.length cap0] (by simp [Act.eval, Act.put]) rfl (by exact news_at _ _ _) (by simp [Value.oneCell']) (by decide) (by unfold maxLen; omega) (by omega) (by simp; omega) _ rfl ?_; intro g2 cap2 w3 hown3 hgrow3 hat3 hlt3; have HA := Lib.hid (item_added HK2.out H2.out HO2.out HWr.out HKc.out hlt hsz (fun g hg => (HOr.out.lt g hg).2) HV.out sIn rfl hown3 hgrow3 hat3); clear hown3 hgrow3 hat3)
        obtain ⟨a1, a2, a3, a4⟩ := HA.out
        have A1 := Lib.hid a1; have A2 := Lib.hid a2; have A3 := Lib.hid a3; have A4 := Lib.hid a4
        clear a1 a2 a3 a4 HA hlt3
        have hlen2 : acc.length + 1 = (acc ++ [x]).length := by simp
        have HL2 := Lib.hid hlen2
        clear hlen2
        go_wp2_with fail
        go_roundw
        case rel => exact ⟨k + 1, acc ++ [x], _, r', by omega, by omega, by go_num, Lib.hid (by have := hacc.out; simp; omega), A1, A2, A3, A4, HQ2⟩
        case measure => simp [intOf]; omega
    · have hkn : n.toNat - k = 0 := by omega
      have HQ2 : Hid (lstP insP bs = some (acc, restk)) := HQr.out.trans (by rw [hkn]; exact cont_zero _ _ _)
      have HS := Lib.hid (Row.sl sIn HWr.out HOr.out (by omega) (P' := Nw w.heap.size _) (fun k hk => ⟨hk.1, hk.2.1⟩) (fun g hg => HOr.out.lt g hg))
      clear hkn
      go_wp2_with fail
      go_ret
      unfold Rp
      rw [HQ2.out]
      exact ⟨HKr.out, _, rfl, HS.out, HRr.out⟩


set_option maxRecDepth 100000 in
set_option maxHeartbeats 4000000 in
theorem classP (B b : Nat) (bs : List UInt8) (w : World) (h : Rdr w B b bs) (hlen : bs.length ≤ 4000000) :
    Calls Try.prog 73 #[.pointer (some ⟨b, 0, none⟩)] w (Rp (clP bs) (RS VCl w.heap.size) B b w) := by
  have hR := Lib.hid h
  have hlt := h.lt
  clear h
  go_enter Try.func73, Try.ntmps73
  go_wp2_with fail
  refine (numP B b bs _ (hR.out.alloc _)).mono ?_
  rintro e w1 ⟨hk1, hp⟩
  have HK1 := Lib.hid (((Wk.refl [b] w).alloc _).trans hk1)
  have z0 := hk1.cell (c := w.heap.size) (o := 0) (v := .int .i64 0) (by go_simp) (by simp; omega)
  have z1 := hk1.cell (c := w.heap.size) (o := 1) (v := .slice none 0 0) (by go_simp) (by simp; omega)
  have f0 := hk1.frz (c := w.heap.size) (o := 0) (by go_simp) (by simp) (by simp; omega)
  have f1 := hk1.frz (c := w.heap.size) (o := 1) (by go_simp) (by simp) (by simp; omega)
  have hn1 : w.heap.size < w1.heap.size := lt_cell' z0
  clear hk1
  obtain ⟨r, HP⟩ : ∃ r, Hid (rd bs = r) := ⟨_, rfl⟩
  rw [HP.out] at hp
  rcases r with _ | ⟨x, r'⟩
  · have HN : Hid (clP bs = none) := bind_none HP.out
    subst hp
    unfold shortE
    go_wp2_with fail
    refine And.intro rfl ?_
    show Rp _ _ _ _ _ _ _
    unfold Rp
    rw [HN.out]
    exact ⟨HK1.out, rfl⟩
  · have HN : Hid (clP bs = Bytes.bind (lstP tyP) (fun l => ret ⟨x, l⟩) r') := bind_of HP.out
    obtain ⟨v, rfl, hvx, hR2⟩ := hp
    unfold RInt at hvx
    subst hvx
    have okx := Lib.hid (rd_wrote _ _ _ HP.out).2
    have hea := eats_rd _ _ _ HP.out
    have H2 := Lib.hid hR2
    clear hR2
    go_wp2_with fail
    refine (itemsTy B b r' _ (H2.out.alloc _) (by omega)).mono ?_
    rintro e w2 ⟨hk2, hp⟩
    have HK2 := Lib.hid (HK1.out.trans (((Wk.refl [b] w1).alloc _).trans hk2))
    have y0 := hk2.cell (c := w1.heap.size) (o := 0) (v := .int .i64 x) (by go_simp) (by simp; omega)
    have y1 := hk2.cell (c := w1.heap.size) (o := 1) (v := .slice none 0 0) (by go_simp) (by simp; omega)
    have g1 := hk2.frz (c := w1.heap.size) (o := 1) (by go_simp) (by simp) (by simp; omega)
    have u0 := hk2.cell (c := w.heap.size) (o := 0) (v := .int .i64 0) (by go_simp) (by simp; omega)
    have u1 := hk2.cell (c := w.heap.size) (o := 1) (v := .slice none 0 0) (by go_simp) (by simp; omega)
    have e0 := hk2.frz (c := w.heap.size) (o := 0) (by go_simp) (by simp; omega) (by simp; omega)
    have e1 := hk2.frz (c := w.heap.size) (o := 1) (by go_simp) (by simp; omega) (by simp; omega)
    clear hk2 z0 z1 f0 f1
    obtain ⟨r, HP2⟩ : ∃ r, Hid (lstP tyP r' = r) := ⟨_, rfl⟩
    rw [HP2.out] at hp
    rcases r with _ | ⟨l, r5⟩
    · have HN2 : Hid (clP bs = none) := HN.out.trans (bind_none HP2.out)
      subst hp
      unfold shortE
      go_wp2_with fail
      refine And.intro rfl ?_
      show Rp _ _ _ _ _ _ _
      unfold Rp
      rw [HN2.out]
      exact ⟨HK2.out, rfl⟩
    · have HN2 : Hid (clP bs = some (⟨x, l⟩, r5)) := HN.out.trans (bind_of HP2.out)
      obtain ⟨v, rfl, hsl, hR5⟩ := hp
      have HSL := Lib.hid hsl
      obtain ⟨aa, acap, rfl, _, _, _⟩ := hsl
      have H6 := Lib.hid hR5
      have hMM : ¬ w.heap.size = w1.heap.size := by omega
      clear hR5
      go_wp2_with fail
      refine bodyPost_ret (v := .agg #[.int .i64 x, .slice aa l.length acap]) (by simp [results, Try.results73, go_sem]; go_simp) rfl ?_
      unfold Rp
      rw [HN2.out]
      have hfin : Wk [w.heap.size, w1.heap.size] w2 _ := (((Wk.refl [w.heap.size, w1.heap.size] w2).setCell (p := ⟨w1.heap.size, 1, none⟩) (.inl (by simp)) (.slice aa l.length acap)).setCell (p := ⟨w.heap.size, 0, none⟩) (.inl (by simp)) (.int .i64 x)).setCell (p := ⟨w.heap.size, 1, none⟩) (.inl (by simp)) (.slice aa l.length acap)
      have hz5 := hfin.size
      have hs2 := HK2.out.size
      refine ⟨HK2.out.trans' hfin (fun y hy => .inr (by simp at hy; omega)), _, rfl, ⟨_, rfl, _, rfl, okx.out, HSL.out.stays sTy (fun k hk => ?_)⟩, H6.out.next hfin (fun y hy => by simp at hy; omega)⟩
      obtain ⟨k1, k2⟩ := hk
      have k1' : w1.heap.size + 1 ≤ k := by simpa using k1
      exact ⟨⟨by omega, Nat.lt_of_lt_of_le k2 hz5⟩, hfin.block k k2 (by simp; omega)⟩

theorem info_Cl : (Try.prog.info? 40).map (fun i => (i.zero, i.size, i.bytes)) = some (some (.agg #[.int .i64 0, .slice none 0 0]), 2, 32) := by kernel_rfl
set_option maxRecDepth 100000 in
set_option maxHeartbeats 4000000 in
theorem itemsCl (B b : Nat) (bs : List UInt8) (w : World) (h : Rdr w B b bs) (hlen : bs.length ≤ 4000000) :
    Calls Try.prog 72 #[.pointer (some ⟨b, 0, none⟩), .func (Fn.func 73) #[.pointer (some ⟨b, 0, none⟩)] #[]] w (Rp (lstP clP bs) (RL VCl 2 w.heap.size) B b w) := by
  obtain ⟨i0, hi, hz0, hz1, hz2⟩ := info_parts info_Cl
  have hR := Lib.hid h
  have hlt := h.lt
  clear h
  go_enter Try.func72, Try.ntmps72
  go_wp2_with fail
  refine (numP B b bs _ hR.out).mono ?_
  rintro e w1 ⟨hk, hp⟩
  have HK := Lib.hid hk
  have hw1s := hk.size
  clear hk
  obtain ⟨r, HR⟩ : ∃ r, Hid (rd bs = r) := ⟨_, rfl⟩
  rw [HR.out] at hp
  rcases r with _ | ⟨n, rest⟩
  · have HQ : Hid (lstP clP bs = none) := lst_none HR.out
    subst hp
    unfold shortE
    go_wp2_with fail
    refine And.intro rfl ?_
    show Rp _ _ _ _ _ _ _
    unfold Rp
    rw [HQ.out]
    exact ⟨HK.out, rfl⟩
  obtain ⟨v, rfl, hvn, hR1⟩ := hp
  unfold RInt at hvn
  subst hvn
  have H1 := Lib.hid hR1
  have hrl := eats_rd _ _ _ HR.out
  have hlt1 := hR1.lt
  obtain ⟨hB, v, hc, hf, a, cap, rfl, hlc, hcc, _⟩ := hR1
  have okn := (rd_wrote _ _ _ HR.out).2
  unfold Ok at okn
  by_cases hneg : n < 0
  · have HQ : Hid (lstP clP bs = none) := lst_neg HR.out hneg
    have hnb : decide (n < 0) = true := by simp [hneg]
    go_wp2_with fail
    refine And.intro rfl ?_
    show Rp _ _ _ _ _ _ _
    unfold Rp
    rw [HQ.out]
    exact ⟨HK.out, rfl⟩
  have hneg2 : 0 ≤ n := by omega
  have hnb : decide (n < 0) = false := by simp [hneg2]
  by_cases hbig : (rest.length : Int) / 8 < n
  · have HQ : Hid (lstP clP bs = none) := lst_big eats_cl HR.out hbig
    have hbb : decide ((rest.length : Int) / 8 < n) = true := by simp [hbig]
    go_wp2_with fail
    refine And.intro rfl ?_
    show Rp _ _ _ _ _ _ _
    unfold Rp
    rw [HQ.out]
    exact ⟨HK.out, rfl⟩
  have hbb : decide ((rest.length : Int) / 8 < n) = false := by simp; omega
  have HQ0 := Lib.hid (cont_start (p := clP) HR.out (by omega))
  have hn5 : n ≤ 500000 := by omega
  go_wp2_with fail
  clear hnb hbb hc hf hlc hcc
  go_loopw [6, 24] (fun v i wr => ∃ (k : Nat) (acc : List Cls) (xs : List Value) (restk : List UInt8), (k : Int) ≤ n ∧ restk.length ≤ 4000000 ∧ i = .int .i64 k ∧ Hid (acc.length = k) ∧ Hid (Wk [b] w wr) ∧ Hid (Rdr wr B b restk) ∧ Hid (wr.ownsRow w.heap.size 40 2 v acc.length xs) ∧ Hid (Row VCl 2 wr (Rw w.heap.size wr v) xs acc) ∧ Hid (lstP clP bs = Cont clP (n.toNat - k) acc restk)) (fun _ i _ => n.toNat - (intOf i).toNat)
  case atStart => exact ⟨0, [], [], rest, by omega, by omega, rfl, rfl, HK, H1, World.ownsRow_nil _ _ _ _, Row.nil _ _ _ _, HQ0⟩
  case round =>
    obtain ⟨k, acc, xs, restk, hk, hrk, rfl, hacc, HKr, HRr, HOr, HWr, HQr⟩ := hrel
    have hsz := HKr.out.size
    have hbl := HRr.out.lt
    have hal : acc.length ≤ 500000 := by have := hacc.out; omega
    by_cases hlt2 : (k : Int) < n
    · go_wp2_with fail
      refine (classP B b restk _ HRr.out (by omega)).mono ?_
      rintro e w2 ⟨hk2, hp⟩
      have hk2s := hk2.size
      have HKc := Lib.hid hk2
      have HK2 := Lib.hid (HKr.out.trans hk2)
      clear hk2
      obtain ⟨r, HP⟩ : ∃ r, Hid (clP restk = r) := ⟨_, rfl⟩
      rw [HP.out] at hp
      rcases r with _ | ⟨x, r'⟩
      · have HQ2 : Hid (lstP clP bs = none) := HQr.out.trans (by rw [show n.toNat - k = (n.toNat - (k + 1)) + 1 by omega]; exact cont_none HP.out)
        subst hp
        unfold shortE
        go_wp2_with fail
        refine And.intro rfl ?_
        show Rp _ _ _ _ _ _ _
        unfold Rp
        rw [HQ2.out]
        exact ⟨HK2.out, rfl⟩
      · have HQ2 : Hid (lstP clP bs = Cont clP (n.toNat - (k + 1)) (acc ++ [x]) r') := HQr.out.trans (by rw [show n.toNat - k = (n.toNat - (k + 1)) + 1 by omega]; exact cont_some HP.out)
        have her := eats_cl _ _ _ HP.out
        obtain ⟨v, rfl, ⟨cs, rfl, hV⟩, hR2⟩ := hp
        have hV' := Lib.hid hV
        obtain ⟨va, rfl, okx, sva⟩ := hV
        have hV := hV'.out
        clear hV'
        obtain ⟨aa0, cap0, hva, _, _, _⟩ := sva
        subst hva
        have HV := Lib.hid hV
        have H2 := Lib.hid hR2
        have HO2 := Lib.hid (own_keep HOr.out HKc.out (by simp; exact fun g hg e => by have := (HOr.out.lt g hg).1; omega))
        clear hV hR2
        go_wp2_with (at_builtin; refine wpList_append_lies _ rfl (.tmp 26) (.tmp 29) 26 rfl w.heap.size 40 i0 (.agg #[.int .i64 0, .slice none 0 0]) 2 32 Try.underlying26 hi hz0 hz1 hz2 rfl (by decide) _ acc.length xs (by simp [Act.eval, Act.put]) (HO2.out.alloc _) ⟨w2.heap.size, 0, none⟩ 1 1 [.int .i64 x.sup, .slice aa0 x.fields.length cap0] (by simp [Act.eval, Act.put]) rfl (by exact news_at _ _ _) (by simp [Value.oneCell']) (by decide) (by unfold maxLen; omega) (by omega) (by simp; omega) _ rfl ?_; intro g2 cap2 w3 hown3 hgrow3 hat3 hlt3; have HA := Lib.hid (item_added HK2.out H2.out HO2.out HWr.out HKc.out hlt hsz (fun g hg => (HOr.out.lt g hg).2) HV.out sCl rfl hown3 hgrow3 hat3); clear hown3 hgrow3 hat3)
        obtain ⟨a1, a2, a3, a4⟩ := HA.out
        have A1 := Lib.hid a1; have A2 := Lib.hid a2; have A3 := Lib.hid a3; have A4 := Lib.hid a4
        clear a1 a2 a3 a4 HA hlt3
        have hlen2 : acc.length + 1 = (acc ++ [x]).length := by simp
        have HL2 := Lib.hid hlen2
        clear hlen2
        go_wp2_with fail
        go_roundw
        case rel => exact ⟨k + 1, acc ++ [x], _, r', by omega, by omega, by go_num, Lib.hid (by have := hacc.out; simp; omega), A1, A2, A3, A4, HQ2⟩
        case measure => simp [intOf]; omega
    · have hkn : n.toNat - k = 0 := by omega
      have HQ2 : Hid (lstP clP bs = some (acc, restk)) := HQr.out.trans (by rw [hkn]; exact cont_zero _ _ _)
      have HS := Lib.hid (Row.sl sCl HWr.out HOr.out (by omega) (P' := Nw w.heap.size _) (fun k hk => ⟨hk.1, hk.2.1⟩) (fun g hg => HOr.out.lt g hg))
      clear hkn
      go_wp2_with fail
      go_ret
      unfold Rp
      rw [HQ2.out]
      exact ⟨HKr.out, _, rfl, HS.out, HRr.out⟩


/-- a block's cells, all of them writable -/
def Blk (w : World) (nb : Nat) (vs : List Value) : Prop := ∀ j (h : j < vs.length), w.cell? ⟨nb, j, none⟩ = some vs[j] ∧ w.frozen? ⟨nb, j, none⟩ = false
theorem Blk.next {w w' : World} {nb : Nat} {vs : List Value} (h : Blk w nb vs) {X : List Nat} (hk : Wk X w w') (hX : nb ∉ X) : Blk w' nb vs := fun j hj =>
  ⟨hk.cell (h j hj).1 hX, hk.frz (h j hj).2 (lt_cell' (h j hj).1) hX⟩
theorem Blk.far {w : World} {nb : Nat} {vs : List Value} (h : Blk w nb vs) {b2 o2 : Nat} (hne : b2 ≠ nb) (x : Value) : Blk (w.setCell ⟨b2, o2, none⟩ x) nb vs :=
  h.next (X := [b2]) ((Wk.refl _ _).setCell (.inl (by simp)) _) (by simp; exact fun e => hne e.symm)
theorem Blk.set {w : World} {nb : Nat} {vs : List Value} (h : Blk w nb vs) (k : Nat) (hk : k < vs.length) (x : Value) : Blk (w.setCell ⟨nb, k, none⟩ x) nb (vs.set k x) := fun j hj => by
  have hj' : j < vs.length := by simpa using hj
  obtain ⟨h1, h2⟩ := h j hj'
  obtain ⟨g1, g2⟩ := h k hk
  by_cases e : j = k
  · subst e
    rw [List.getElem_set_self]
    exact ⟨by go_simp, by rw [World.frozen?_setCell]; exact h2⟩
  · have hne : ¬ ((⟨nb, k, none⟩ : Addr) = ⟨nb, j, none⟩) := by intro h; injection h with _ h; omega
    rw [List.getElem_set_ne (by omega)]
    exact ⟨by rw [World.cell?_setCell_other _ _ _ _ hne]; exact h1, by rw [World.frozen?_setCell]; exact h2⟩

theorem me_rep (bs r1 r2 : List UInt8) (pl : List Ty) (t : Ty) (h1 : lstP tyP bs = some (pl, r1)) (h2 : tyP r1 = some (t, r2)) : meP bs = (match Cont rd 3 [] r2 with
  | none => none
  | some (l, r) => Bytes.bind (lstP insP) (fun c => Bytes.bind (lstP hdP) fun h => ret ⟨pl, t, l.getD 0 0, l.getD 1 0, l.getD 2 0, c, h⟩) r) := by
  rw [meP, bind_of h1, bind_of h2]
  cases h1 : rd r2 with
  | none => rw [bind_none h1, cont_none h1]
  | some y =>
    obtain ⟨a, r1⟩ := y
    rw [bind_of h1, cont_some h1]
    cases h2 : rd r1 with
    | none => rw [bind_none h2, cont_none h2]
    | some y =>
      obtain ⟨b, r2⟩ := y
      rw [bind_of h2, cont_some h2]
      cases h3 : rd r2 with
      | none => rw [bind_none h3, cont_none h3]
      | some y =>
        obtain ⟨c, r3⟩ := y
        rw [bind_of h3, cont_some h3, cont_zero]; rfl
theorem eats_lst {α : Type} {p : P α} {e : α → List UInt8} {ok : α → Prop} (h : Wrote p e ok) : Eats (lstP p) := eats_of (lst_wrote h) (fun x => by rw [lst, List.length_append, wide_len]; omega)

set_option maxRecDepth 100000 in
set_option maxHeartbeats 8000000 in
theorem methodP (B b : Nat) (bs : List UInt8) (w : World) (h : Rdr w B b bs) (hlen : bs.length ≤ 4000000) :
    Calls Try.prog 75 #[.pointer (some ⟨b, 0, none⟩)] w (Rp (meP bs) (RS VMt w.heap.size) B b w) := by
  have hR := Lib.hid h
  have hlt := h.lt
  clear h
  have i0 : ∀ (a b c : Value) (w : World), (Instr.index 130 (.agg #[a, b, c]) (.int .i64 0)).run Try.prog w = .ok a w := fun _ _ _ _ => by kernel_rfl
  have i1 : ∀ (a b c : Value) (w : World), (Instr.index 130 (.agg #[a, b, c]) (.int .i64 1)).run Try.prog w = .ok b w := fun _ _ _ _ => by kernel_rfl
  have i2 : ∀ (a b c : Value) (w : World), (Instr.index 130 (.agg #[a, b, c]) (.int .i64 2)).run Try.prog w = .ok c w := fun _ _ _ _ => by kernel_rfl
  go_enter Try.func75, Try.ntmps75
  go_wp2_with fail
  refine callsR (fun W => Hid (Wk [b] w W) ∧ Hid (Rdr W B b bs) ∧ Hid (Blk W w.heap.size [.slice none 0 0, .int .i64 0, .int .i64 0, .int .i64 0, .int .i64 0, .int .i64 0, .slice none 0 0, .slice none 0 0]) ∧ w.heap.size < W.heap.size) ⟨Lib.hid ((Wk.refl _ _).alloc _), Lib.hid (hR.out.alloc _), ?_, by simp⟩ ?_
  · show Blk _ _ _
    intro j hj
    match j, hj with
    | 0, _ => exact ⟨by go_simp; try rfl, by go_simp⟩
    | 1, _ => exact ⟨by go_simp; try rfl, by go_simp⟩
    | 2, _ => exact ⟨by go_simp; try rfl, by go_simp⟩
    | 3, _ => exact ⟨by go_simp; try rfl, by go_simp⟩
    | 4, _ => exact ⟨by go_simp; try rfl, by go_simp⟩
    | 5, _ => exact ⟨by go_simp; try rfl, by go_simp⟩
    | 6, _ => exact ⟨by go_simp; try rfl, by go_simp⟩
    | 7, _ => exact ⟨by go_simp; try rfl, by go_simp⟩
  rintro w0 ⟨HK0, HR0, HZ0, hw0⟩
  refine (itemsTy B b bs _ HR0.out hlen).mono ?_
  rintro e w1 ⟨hk1, hp⟩
  have HK1 := Lib.hid (HK0.out.trans hk1)
  have HZ1 := Lib.hid (HZ0.out.next hk1 (by simp; omega))
  have hw1 := hk1.size
  clear hk1
  obtain ⟨r, HP1⟩ : ∃ r, Hid (lstP tyP bs = r) := ⟨_, rfl⟩
  rw [HP1.out] at hp
  rcases r with _ | ⟨pl, r1⟩
  · have HN : Hid (meP bs = none) := bind_none HP1.out
    subst hp
    unfold shortE
    go_wp2_with fail
    refine And.intro rfl ?_
    show Rp _ _ _ _ _ _ _
    unfold Rp
    rw [HN.out]
    exact ⟨HK1.out, rfl⟩
  obtain ⟨v, rfl, hsl, hR1⟩ := hp
  have HS1 := Lib.hid hsl
  obtain ⟨pa, pcap, rfl, _, _, _⟩ := hsl
  have H1 := Lib.hid hR1
  have hea1 := eats_lst ty_wrote _ _ _ HP1.out
  clear hR1
  go_wp2_with fail
  refine callsR (fun W => Hid (Wk [b] w W) ∧ Hid (Rdr W B b r1) ∧ Hid (Blk W w.heap.size [.slice none 0 0, .int .i64 0, .int .i64 0, .int .i64 0, .int .i64 0, .int .i64 0, .slice none 0 0, .slice none 0 0]) ∧ Hid (Blk W w1.heap.size [.slice pa pl.length pcap, .int .i64 0, .int .i64 0, .int .i64 0, .int .i64 0, .int .i64 0, .slice none 0 0, .slice none 0 0]) ∧ Hid (SlV VTy 2 W (Nw w0.heap.size w1.heap.size) (.slice pa pl.length pcap) pl) ∧ w1.heap.size < W.heap.size) ⟨Lib.hid (HK1.out.alloc _), Lib.hid (H1.out.alloc _), Lib.hid (HZ1.out.next (X := []) ((Wk.refl _ _).alloc _) (by simp)), ?_, Lib.hid (HS1.out.stays sTy (fun k hk => ⟨hk, heap_alloc_old _ _ hk.2⟩)), by simp⟩ ?_
  · show Blk _ _ _
    intro j hj
    match j, hj with
    | 0, _ => exact ⟨by go_simp; try rfl, by go_simp⟩
    | 1, _ => exact ⟨by go_simp; try rfl, by go_simp⟩
    | 2, _ => exact ⟨by go_simp; try rfl, by go_simp⟩
    | 3, _ => exact ⟨by go_simp; try rfl, by go_simp⟩
    | 4, _ => exact ⟨by go_simp; try rfl, by go_simp⟩
    | 5, _ => exact ⟨by go_simp; try rfl, by go_simp⟩
    | 6, _ => exact ⟨by go_simp; try rfl, by go_simp⟩
    | 7, _ => exact ⟨by go_simp; try rfl, by go_simp⟩
  rintro w2 ⟨HK2, HR2, HZ2, HM2, HS2, hw2⟩
  generalize hM : w1.heap.size = M at *
  refine (kindP B b r1 _ HR2.out).mono ?_
  rintro e w3 ⟨hk3, hp⟩
  have HK3 := Lib.hid (HK2.out.trans hk3)
  have HZ3 := Lib.hid (HZ2.out.next hk3 (by simp; omega))
  have HM3 := Lib.hid (HM2.out.next hk3 (by simp; omega))
  have HS3 := Lib.hid (HS2.out.stays sTy (fun k hk => ⟨hk, hk3.block k (by have := hk.2; omega) (by simp; have := hk.1; omega)⟩))
  have hw3 := hk3.size
  clear hk3
  obtain ⟨r, HP2⟩ : ∃ r, Hid (tyP r1 = r) := ⟨_, rfl⟩
  rw [HP2.out] at hp
  rcases r with _ | ⟨t, r2⟩
  · have HN : Hid (meP bs = none) := by
      show _ = _
      rw [meP, bind_of HP1.out, bind_none HP2.out]
    subst hp
    unfold shortE
    go_wp2_with fail
    refine And.intro rfl ?_
    show Rp _ _ _ _ _ _ _
    unfold Rp
    rw [HN.out]
    exact ⟨HK3.out, rfl⟩
  have HN := Lib.hid (me_rep bs r1 r2 pl t HP1.out HP2.out)
  obtain ⟨v, rfl, ⟨cs, rfl, ⟨rfl, okt⟩⟩, hR3⟩ := hp
  have OKT := Lib.hid okt
  have H3 := Lib.hid hR3
  have hea2 := eats_ty _ _ _ HP2.out
  have m1 : w3.cell? ⟨M, 1, none⟩ = some (.int .i64 0) := (HM3.out 1 (by simp)).1
  have m2 : w3.cell? ⟨M, 2, none⟩ = some (.int .i64 0) := (HM3.out 2 (by simp)).1
  have g1 : w3.frozen? ⟨M, 1, none⟩ = false := (HM3.out 1 (by simp)).2
  have g2 : w3.frozen? ⟨M, 2, none⟩ = false := (HM3.out 2 (by simp)).2
  clear hR3 okt
  go_wp2_with fail
  go_loopw [18] (fun i wr => ∃ (k : Nat) (restk : List UInt8) (y0 y1 y2 : Int), k ≤ 3 ∧ restk.length ≤ 4000000 ∧ M < wr.heap.size ∧ i = .int .i64 k ∧ Hid (Wk [b] w wr) ∧ Hid (Rdr wr B b restk) ∧ Hid (Blk wr w.heap.size [.slice none 0 0, .int .i64 0, .int .i64 0, .int .i64 0, .int .i64 0, .int .i64 0, .slice none 0 0, .slice none 0 0]) ∧ Hid (Blk wr M [.slice pa pl.length pcap, .int .i64 t.kind, .int .i64 t.cls, .int .i64 y0, .int .i64 y1, .int .i64 y2, .slice none 0 0, .slice none 0 0]) ∧ Hid (SlV VTy 2 wr (Nw w0.heap.size M) (.slice pa pl.length pcap) pl) ∧ Hid (Ok y0 ∧ Ok y1 ∧ Ok y2) ∧ Hid (Cont rd 3 [] r2 = Cont rd (3 - k) ([y0, y1, y2].take k) restk)) (fun i _ => 3 - (intOf i).toNat)
  case atStart =>
    have kz : Ok 0 := by unfold Ok; omega
    exact ⟨0, r2, 0, 0, 0, by omega, by omega, by simp; omega, rfl, Lib.hid ((HK3.out.setCell (.inr (by show _ ≤ M; omega)) _).setCell (.inr (by show _ ≤ M; omega)) _), Lib.hid (H3.out.next (X := [M]) (((Wk.refl _ _).setCell (.inl (by simp)) _).setCell (.inl (by simp)) _) (by simp; omega)), Lib.hid ((HZ3.out.far (by omega) _).far (by omega) _), Lib.hid ((HM3.out.set 1 (by simp) _).set 2 (by simp) _), Lib.hid (HS3.out.stays sTy (fun k hk => ⟨hk, (Below.heap_setCell _ _ _ _ (by show k ≠ M; have := hk.2; omega)).trans (Below.heap_setCell _ _ _ _ (by show k ≠ M; have := hk.2; omega))⟩)), Lib.hid ⟨kz, kz, kz⟩, rfl⟩
  case round =>
    obtain ⟨k, restk, y0, y1, y2, hk, hrk, hsMw, rfl, HKr, HRr, HZ, HM, HS, HO, HC⟩ := hrel
    have hsz := HKr.out.size
    have hsM : M ≤ _ := Nat.le_of_lt hsMw
    clear m1 m2 g1 g2
    by_cases hlt2 : k < 3
    · have hcase : k = 0 ∨ k = 1 ∨ k = 2 := by omega
      rcases hcase with rfl | rfl | rfl
      · go_wp2_with fail
        refine (numP B b restk _ HRr.out).mono ?_
        rintro e w4 ⟨hk4, hp⟩
        have HK4 := Lib.hid (HKr.out.trans hk4)
        have HZ4 := Lib.hid (HZ.out.next hk4 (by simp; omega))
        have HM4 := Lib.hid (HM.out.next hk4 (by simp; omega))
        have HS4 := Lib.hid (HS.out.stays sTy (fun k hk => ⟨hk, hk4.block k (Nat.lt_of_lt_of_le hk.2 hsM) (by simp; have := hk.1; omega)⟩))
        have hs4 := hk4.size
        clear hk4
        obtain ⟨r, HP⟩ : ∃ r, Hid (rd restk = r) := ⟨_, rfl⟩
        rw [HP.out] at hp
        rcases r with _ | ⟨x, r'⟩
        · have HN4 : Hid (meP bs = none) := by
            show _ = _
            rw [HN.out, HC.out, cont_none HP.out]
          subst hp
          unfold shortE
          go_wp2_with fail
          refine And.intro rfl ?_
          show Rp _ _ _ _ _ _ _
          unfold Rp
          rw [HN4.out]
          exact ⟨HK4.out, rfl⟩
        · have HC4 := Lib.hid (HC.out.trans (cont_some HP.out))
          obtain ⟨v, rfl, hvx, hR4⟩ := hp
          unfold RInt at hvx
          subst hvx
          have okx := Lib.hid (rd_wrote _ _ _ HP.out).2
          have hea := eats_rd _ _ _ HP.out
          have H4 := Lib.hid hR4
          have q1 : w4.cell? ⟨M, 3, none⟩ = some (.int .i64 y0) := (HM4.out 3 (by simp)).1
          have q2 : w4.frozen? ⟨M, 3, none⟩ = false := (HM4.out 3 (by simp)).2
          clear hR4
          go_wp2_with fail
          go_roundw
          case rel => exact ⟨1, r', x, y1, y2, by omega, by omega, by simp [World.setCell]; omega, rfl, Lib.hid (HK4.out.setCell (.inr (by show _ ≤ M; omega)) _), Lib.hid (H4.out.next (X := [M]) ((Wk.refl _ _).setCell (.inl (by simp)) _) (by simp; omega)), Lib.hid (HZ4.out.far (by omega) _), Lib.hid (HM4.out.set 3 (by simp) _), Lib.hid (HS4.out.stays sTy (fun k hk => ⟨hk, (Below.heap_setCell _ _ _ _ (by show k ≠ M; have := hk.2; omega))⟩)), Lib.hid (by have := HO.out; have := okx.out; exact ⟨by assumption, HO.out.2.1, HO.out.2.2⟩), HC4⟩
          case measure => simp [intOf]
      · go_wp2_with fail
        refine (numP B b restk _ HRr.out).mono ?_
        rintro e w4 ⟨hk4, hp⟩
        have HK4 := Lib.hid (HKr.out.trans hk4)
        have HZ4 := Lib.hid (HZ.out.next hk4 (by simp; omega))
        have HM4 := Lib.hid (HM.out.next hk4 (by simp; omega))
        have HS4 := Lib.hid (HS.out.stays sTy (fun k hk => ⟨hk, hk4.block k (Nat.lt_of_lt_of_le hk.2 hsM) (by simp; have := hk.1; omega)⟩))
        have hs4 := hk4.size
        clear hk4
        obtain ⟨r, HP⟩ : ∃ r, Hid (rd restk = r) := ⟨_, rfl⟩
        rw [HP.out] at hp
        rcases r with _ | ⟨x, r'⟩
        · have HN4 : Hid (meP bs = none) := by
            show _ = _
            rw [HN.out, HC.out, cont_none HP.out]
          subst hp
          unfold shortE
          go_wp2_with fail
          refine And.intro rfl ?_
          show Rp _ _ _ _ _ _ _
          unfold Rp
          rw [HN4.out]
          exact ⟨HK4.out, rfl⟩
        · have HC4 := Lib.hid (HC.out.trans (cont_some HP.out))
          obtain ⟨v, rfl, hvx, hR4⟩ := hp
          unfold RInt at hvx
          subst hvx
          have okx := Lib.hid (rd_wrote _ _ _ HP.out).2
          have hea := eats_rd _ _ _ HP.out
          have H4 := Lib.hid hR4
          have q1 : w4.cell? ⟨M, 4, none⟩ = some (.int .i64 y1) := (HM4.out 4 (by simp)).1
          have q2 : w4.frozen? ⟨M, 4, none⟩ = false := (HM4.out 4 (by simp)).2
          clear hR4
          go_wp2_with fail
          go_roundw
          case rel => exact ⟨2, r', y0, x, y2, by omega, by omega, by simp [World.setCell]; omega, rfl, Lib.hid (HK4.out.setCell (.inr (by show _ ≤ M; omega)) _), Lib.hid (H4.out.next (X := [M]) ((Wk.refl _ _).setCell (.inl (by simp)) _) (by simp; omega)), Lib.hid (HZ4.out.far (by omega) _), Lib.hid (HM4.out.set 4 (by simp) _), Lib.hid (HS4.out.stays sTy (fun k hk => ⟨hk, (Below.heap_setCell _ _ _ _ (by show k ≠ M; have := hk.2; omega))⟩)), Lib.hid (by have := HO.out; have := okx.out; exact ⟨HO.out.1, by assumption, HO.out.2.2⟩), HC4⟩
          case measure => simp [intOf]
      · go_wp2_with fail
        refine (numP B b restk _ HRr.out).mono ?_
        rintro e w4 ⟨hk4, hp⟩
        have HK4 := Lib.hid (HKr.out.trans hk4)
        have HZ4 := Lib.hid (HZ.out.next hk4 (by simp; omega))
        have HM4 := Lib.hid (HM.out.next hk4 (by simp; omega))
        have HS4 := Lib.hid (HS.out.stays sTy (fun k hk => ⟨hk, hk4.block k (Nat.lt_of_lt_of_le hk.2 hsM) (by simp; have := hk.1; omega)⟩))
        have hs4 := hk4.size
        clear hk4
        obtain ⟨r, HP⟩ : ∃ r, Hid (rd restk = r) := ⟨_, rfl⟩
        rw [HP.out] at hp
        rcases r with _ | ⟨x, r'⟩
        · have HN4 : Hid (meP bs = none) := by
            show _ = _
            rw [HN.out, HC.out, cont_none HP.out]
          subst hp
          unfold shortE
          go_wp2_with fail
          refine And.intro rfl ?_
          show Rp _ _ _ _ _ _ _
          unfold Rp
          rw [HN4.out]
          exact ⟨HK4.out, rfl⟩
        · have HC4 := Lib.hid (HC.out.trans (cont_some HP.out))
          obtain ⟨v, rfl, hvx, hR4⟩ := hp
          unfold RInt at hvx
          subst hvx
          have okx := Lib.hid (rd_wrote _ _ _ HP.out).2
          have hea := eats_rd _ _ _ HP.out
          have H4 := Lib.hid hR4
          have q1 : w4.cell? ⟨M, 5, none⟩ = some (.int .i64 y2) := (HM4.out 5 (by simp)).1
          have q2 : w4.frozen? ⟨M, 5, none⟩ = false := (HM4.out 5 (by simp)).2
          clear hR4
          go_wp2_with fail
          go_roundw
          case rel => exact ⟨3, r', y0, y1, x, by omega, by omega, by simp [World.setCell]; omega, rfl, Lib.hid (HK4.out.setCell (.inr (by show _ ≤ M; omega)) _), Lib.hid (H4.out.next (X := [M]) ((Wk.refl _ _).setCell (.inl (by simp)) _) (by simp; omega)), Lib.hid (HZ4.out.far (by omega) _), Lib.hid (HM4.out.set 5 (by simp) _), Lib.hid (HS4.out.stays sTy (fun k hk => ⟨hk, (Below.heap_setCell _ _ _ _ (by show k ≠ M; have := hk.2; omega))⟩)), Lib.hid (by have := HO.out; have := okx.out; exact ⟨HO.out.1, HO.out.2.1, by assumption⟩), HC4⟩
          case measure => simp [intOf]
    · obtain rfl : k = 3 := by omega
      have HN5 : Hid (meP bs = Bytes.bind (lstP insP) (fun c => Bytes.bind (lstP hdP) fun h => ret ⟨pl, t, y0, y1, y2, c, h⟩) restk) := by
        show _ = _
        rw [HN.out, HC.out, Nat.sub_self, cont_zero]; rfl
      go_wp2_with fail
      refine (itemsIn B b restk _ HRr.out hrk).mono ?_
      rintro e w5 ⟨hk5, hp⟩
      have HK5 := Lib.hid (HKr.out.trans hk5)
      have HZ5 := Lib.hid (HZ.out.next hk5 (by simp; omega))
      have HM5 := Lib.hid (HM.out.next hk5 (by simp; omega))
      have HS5 := Lib.hid (HS.out.stays sTy (fun k hk => ⟨hk, hk5.block k (Nat.lt_of_lt_of_le hk.2 hsM) (by simp; have := hk.1; omega)⟩))
      have hw5 := hk5.size
      clear hk5
      obtain ⟨r, HP5⟩ : ∃ r, Hid (lstP insP restk = r) := ⟨_, rfl⟩
      rw [HP5.out] at hp
      rcases r with _ | ⟨cl, r5⟩
      · have HN6 : Hid (meP bs = none) := HN5.out.trans (bind_none HP5.out)
        subst hp
        unfold shortE
        go_wp2_with fail
        refine And.intro rfl ?_
        show Rp _ _ _ _ _ _ _
        unfold Rp
        rw [HN6.out]
        exact ⟨HK5.out, rfl⟩
      have HN6 := Lib.hid (HN5.out.trans (bind_of HP5.out))
      obtain ⟨v, rfl, hsl, hR5⟩ := hp
      have HC5 := Lib.hid hsl
      obtain ⟨da, dcap, rfl, _, _, _⟩ := hsl
      have H5 := Lib.hid hR5
      have hea5 := eats_lst ins_wrote _ _ _ HP5.out
      have m6 : w5.cell? ⟨M, 6, none⟩ = some (.slice none 0 0) := (HM5.out 6 (by simp)).1
      have g6 : w5.frozen? ⟨M, 6, none⟩ = false := (HM5.out 6 (by simp)).2
      clear hR5
      go_wp2_with fail
      refine callsR (fun W => Hid (Wk [b] w W) ∧ Hid (Rdr W B b r5) ∧ Hid (Blk W w.heap.size [.slice none 0 0, .int .i64 0, .int .i64 0, .int .i64 0, .int .i64 0, .int .i64 0, .slice none 0 0, .slice none 0 0]) ∧ Hid (Blk W M [.slice pa pl.length pcap, .int .i64 t.kind, .int .i64 t.cls, .int .i64 y0, .int .i64 y1, .int .i64 y2, .slice da cl.length dcap, .slice none 0 0]) ∧ Hid (SlV VTy 2 W (Nw w0.heap.size M) (.slice pa pl.length pcap) pl) ∧ Hid (SlV VIn 6 W (Nw (M + 1) w5.heap.size) (.slice da cl.length dcap) cl) ∧ W.heap.size = w5.heap.size) ⟨Lib.hid (HK5.out.setCell (.inr (by show _ ≤ M; omega)) _), Lib.hid (H5.out.next (X := [M]) ((Wk.refl _ _).setCell (.inl (by simp)) _) (by simp; omega)), Lib.hid (HZ5.out.far (by omega) _), Lib.hid (HM5.out.set 6 (by simp) _), Lib.hid (HS5.out.stays sTy (fun k hk => ⟨hk, Below.heap_setCell _ _ _ _ (by show k ≠ M; have := hk.2; omega)⟩)), Lib.hid (HC5.out.stays sIn (fun k hk => ⟨⟨by have := hk.1; omega, hk.2⟩, Below.heap_setCell _ _ _ _ (by show k ≠ M; have := hk.1; omega)⟩)), by simp [World.setCell]⟩ ?_
      rintro w6 ⟨HK6, H6, HZ6, HM6, HS6, HC6, hw6⟩
      have hw6' : w5.heap.size ≤ w6.heap.size := by omega
      clear m6 g6
      refine (itemsHd B b r5 _ H6.out (by omega)).mono ?_
      rintro e w7 ⟨hk7, hp⟩
      have HK7 := Lib.hid (HK6.out.trans hk7)
      have HZ7 := Lib.hid (HZ6.out.next hk7 (by simp; omega))
      have HM7 := Lib.hid (HM6.out.next hk7 (by simp; omega))
      have HS7 := Lib.hid (HS6.out.stays sTy (fun k hk => ⟨hk, hk7.block k (by have := hk.2; omega) (by simp; have := hk.1; omega)⟩))
      have HC7 := Lib.hid (HC6.out.stays sIn (fun k hk => ⟨hk, hk7.block k (by have := hk.2; omega) (by simp; have := hk.1; omega)⟩))
      have hw7 := hk7.size
      have HW6 := Lib.hid hw6
      clear hk7 hw6
      obtain ⟨r, HP7⟩ : ∃ r, Hid (lstP hdP r5 = r) := ⟨_, rfl⟩
      rw [HP7.out] at hp
      rcases r with _ | ⟨hl, r7⟩
      · have HN7 : Hid (meP bs = none) := HN6.out.trans (bind_none HP7.out)
        subst hp
        unfold shortE
        go_wp2_with fail
        refine And.intro rfl ?_
        show Rp _ _ _ _ _ _ _
        unfold Rp
        rw [HN7.out]
        exact ⟨HK7.out, rfl⟩
      have HN7 := Lib.hid (HN6.out.trans (bind_of HP7.out))
      obtain ⟨v, rfl, hsl, hR7⟩ := hp
      have HH7 := Lib.hid hsl
      obtain ⟨ha, hcap, rfl, _, _, _⟩ := hsl
      have H7 := Lib.hid hR7
      have m0 : w7.cell? ⟨M, 0, none⟩ = some (.slice pa pl.length pcap) := (HM7.out 0 (by simp)).1
      have m1 : w7.cell? ⟨M, 1, none⟩ = some (.int .i64 t.kind) := (HM7.out 1 (by simp)).1
      have m2 : w7.cell? ⟨M, 2, none⟩ = some (.int .i64 t.cls) := (HM7.out 2 (by simp)).1
      have m3 : w7.cell? ⟨M, 3, none⟩ = some (.int .i64 y0) := (HM7.out 3 (by simp)).1
      have m4 : w7.cell? ⟨M, 4, none⟩ = some (.int .i64 y1) := (HM7.out 4 (by simp)).1
      have m5 : w7.cell? ⟨M, 5, none⟩ = some (.int .i64 y2) := (HM7.out 5 (by simp)).1
      have m6 : w7.cell? ⟨M, 6, none⟩ = some (.slice da cl.length dcap) := (HM7.out 6 (by simp)).1
      have m7 : w7.cell? ⟨M, 7, none⟩ = some (.slice none 0 0) := (HM7.out 7 (by simp)).1
      have g7 : w7.frozen? ⟨M, 7, none⟩ = false := (HM7.out 7 (by simp)).2
      have z0 : w7.cell? ⟨w.heap.size, 0, none⟩ = some (.slice none 0 0) := (HZ7.out 0 (by simp)).1
      have z1 : w7.cell? ⟨w.heap.size, 1, none⟩ = some (.int .i64 0) := (HZ7.out 1 (by simp)).1
      have z2 : w7.cell? ⟨w.heap.size, 2, none⟩ = some (.int .i64 0) := (HZ7.out 2 (by simp)).1
      have z3 : w7.cell? ⟨w.heap.size, 3, none⟩ = some (.int .i64 0) := (HZ7.out 3 (by simp)).1
      have z4 : w7.cell? ⟨w.heap.size, 4, none⟩ = some (.int .i64 0) := (HZ7.out 4 (by simp)).1
      have z5 : w7.cell? ⟨w.heap.size, 5, none⟩ = some (.int .i64 0) := (HZ7.out 5 (by simp)).1
      have z6 : w7.cell? ⟨w.heap.size, 6, none⟩ = some (.slice none 0 0) := (HZ7.out 6 (by simp)).1
      have z7 : w7.cell? ⟨w.heap.size, 7, none⟩ = some (.slice none 0 0) := (HZ7.out 7 (by simp)).1
      have f0 : w7.frozen? ⟨w.heap.size, 0, none⟩ = false := (HZ7.out 0 (by simp)).2
      have f1 : w7.frozen? ⟨w.heap.size, 1, none⟩ = false := (HZ7.out 1 (by simp)).2
      have f2 : w7.frozen? ⟨w.heap.size, 2, none⟩ = false := (HZ7.out 2 (by simp)).2
      have f3 : w7.frozen? ⟨w.heap.size, 3, none⟩ = false := (HZ7.out 3 (by simp)).2
      have f4 : w7.frozen? ⟨w.heap.size, 4, none⟩ = false := (HZ7.out 4 (by simp)).2
      have f5 : w7.frozen? ⟨w.heap.size, 5, none⟩ = false := (HZ7.out 5 (by simp)).2
      have f6 : w7.frozen? ⟨w.heap.size, 6, none⟩ = false := (HZ7.out 6 (by simp)).2
      have f7 : w7.frozen? ⟨w.heap.size, 7, none⟩ = false := (HZ7.out 7 (by simp)).2
      have hNN : ¬ w.heap.size = M := by omega
      clear hR7
      go_wp2_with fail
      refine bodyPost_ret (v := .agg #[.slice pa pl.length pcap, .int .i64 t.kind, .int .i64 t.cls, .int .i64 y0, .int .i64 y1, .int .i64 y2, .slice da cl.length dcap, .slice ha hl.length hcap]) (by simp [results, Try.results75, go_sem]; go_simp) rfl ?_
      unfold Rp
      rw [HN7.out]
      have hfin : Wk [w.heap.size, M] w7 _ := (((((((((Wk.refl [w.heap.size, M] w7).setCell (p := ⟨M, 7, none⟩) (.inl (by simp)) (.slice ha hl.length hcap)).setCell (p := ⟨w.heap.size, 0, none⟩) (.inl (by simp)) (.slice pa pl.length pcap)).setCell (p := ⟨w.heap.size, 1, none⟩) (.inl (by simp)) (.int .i64 t.kind)).setCell (p := ⟨w.heap.size, 2, none⟩) (.inl (by simp)) (.int .i64 t.cls)).setCell (p := ⟨w.heap.size, 3, none⟩) (.inl (by simp)) (.int .i64 y0)).setCell (p := ⟨w.heap.size, 4, none⟩) (.inl (by simp)) (.int .i64 y1)).setCell (p := ⟨w.heap.size, 5, none⟩) (.inl (by simp)) (.int .i64 y2)).setCell (p := ⟨w.heap.size, 6, none⟩) (.inl (by simp)) (.slice da cl.length dcap)).setCell (p := ⟨w.heap.size, 7, none⟩) (.inl (by simp)) (.slice ha hl.length hcap)
      have hz7 := hfin.size
      refine ⟨HK7.out.trans' hfin (fun y hy => .inr (by simp at hy; omega)), _, rfl, ⟨_, rfl, _, _, _, rfl, ⟨OKT.out.1, OKT.out.2, HO.out⟩, HS7.out.stays sTy (fun k hk => ?_), HC7.out.stays sIn (fun k hk => ?_), HH7.out.stays sHd (fun k hk => ?_)⟩, H7.out.next hfin (fun y hy => by simp at hy; omega)⟩
      · obtain ⟨k1, k2⟩ := hk
        exact ⟨⟨by omega, Nat.lt_of_lt_of_le (show k < w7.heap.size by omega) hz7⟩, hfin.block k (by omega) (by simp; omega)⟩
      · obtain ⟨k1, k2⟩ := hk
        exact ⟨⟨by omega, Nat.lt_of_lt_of_le (show k < w7.heap.size by omega) hz7⟩, hfin.block k (by omega) (by simp; omega)⟩
      · obtain ⟨k1, k2⟩ := hk
        exact ⟨⟨by omega, Nat.lt_of_lt_of_le k2 hz7⟩, hfin.block k k2 (by simp; omega)⟩

theorem info_Mt : (Try.prog.info? 49).map (fun i => (i.zero, i.size, i.bytes)) = some (some (.agg #[.slice none 0 0, .int .i64 0, .int .i64 0, .int .i64 0, .int .i64 0, .int .i64 0, .slice none 0 0, .slice none 0 0]), 8, 112) := by kernel_rfl
set_option maxRecDepth 100000 in
set_option maxHeartbeats 4000000 in
theorem itemsMt (B b : Nat) (bs : List UInt8) (w : World) (h : Rdr w B b bs) (hlen : bs.length ≤ 4000000) :
    Calls Try.prog 74 #[.pointer (some ⟨b, 0, none⟩), .func (Fn.func 75) #[.pointer (some ⟨b, 0, none⟩)] #[]] w (Rp (lstP meP bs) (RL VMt 8 w.heap.size) B b w) := by
  obtain ⟨i0, hi, hz0, hz1, hz2⟩ := info_parts info_Mt
  have hR := Lib.hid h
  have hlt := h.lt
  clear h
  go_enter Try.func74, Try.ntmps74
  go_wp2_with fail
  refine (numP B b bs _ hR.out).mono ?_
  rintro e w1 ⟨hk, hp⟩
  have HK := Lib.hid hk
  have hw1s := hk.size
  clear hk
  obtain ⟨r, HR⟩ : ∃ r, Hid (rd bs = r) := ⟨_, rfl⟩
  rw [HR.out] at hp
  rcases r with _ | ⟨n, rest⟩
  · have HQ : Hid (lstP meP bs = none) := lst_none HR.out
    subst hp
    unfold shortE
    go_wp2_with fail
    refine And.intro rfl ?_
    show Rp _ _ _ _ _ _ _
    unfold Rp
    rw [HQ.out]
    exact ⟨HK.out, rfl⟩
  obtain ⟨v, rfl, hvn, hR1⟩ := hp
  unfold RInt at hvn
  subst hvn
  have H1 := Lib.hid hR1
  have hrl := eats_rd _ _ _ HR.out
  have hlt1 := hR1.lt
  obtain ⟨hB, v, hc, hf, a, cap, rfl, hlc, hcc, _⟩ := hR1
  have okn := (rd_wrote _ _ _ HR.out).2
  unfold Ok at okn
  by_cases hneg : n < 0
  · have HQ : Hid (lstP meP bs = none) := lst_neg HR.out hneg
    have hnb : decide (n < 0) = true := by simp [hneg]
    go_wp2_with fail
    refine And.intro rfl ?_
    show Rp _ _ _ _ _ _ _
    unfold Rp
    rw [HQ.out]
    exact ⟨HK.out, rfl⟩
  have hneg2 : 0 ≤ n := by omega
  have hnb : decide (n < 0) = false := by simp [hneg2]
  by_cases hbig : (rest.length : Int) / 8 < n
  · have HQ : Hid (lstP meP bs = none) := lst_big eats_me HR.out hbig
    have hbb : decide ((rest.length : Int) / 8 < n) = true := by simp [hbig]
    go_wp2_with fail
    refine And.intro rfl ?_
    show Rp _ _ _ _ _ _ _
    unfold Rp
    rw [HQ.out]
    exact ⟨HK.out, rfl⟩
  have hbb : decide ((rest.length : Int) / 8 < n) = false := by simp; omega
  have HQ0 := Lib.hid (cont_start (p := meP) HR.out (by omega))
  have hn5 : n ≤ 500000 := by omega
  go_wp2_with fail
  clear hnb hbb hc hf hlc hcc
  go_loopw [6, 24] (fun v i wr => ∃ (k : Nat) (acc : List Me) (xs : List Value) (restk : List UInt8), (k : Int) ≤ n ∧ restk.length ≤ 4000000 ∧ i = .int .i64 k ∧ Hid (acc.length = k) ∧ Hid (Wk [b] w wr) ∧ Hid (Rdr wr B b restk) ∧ Hid (wr.ownsRow w.heap.size 49 8 v acc.length xs) ∧ Hid (Row VMt 8 wr (Rw w.heap.size wr v) xs acc) ∧ Hid (lstP meP bs = Cont meP (n.toNat - k) acc restk)) (fun _ i _ => n.toNat - (intOf i).toNat)
  case atStart => exact ⟨0, [], [], rest, by omega, by omega, rfl, rfl, HK, H1, World.ownsRow_nil _ _ _ _, Row.nil _ _ _ _, HQ0⟩
  case round =>
    obtain ⟨k, acc, xs, restk, hk, hrk, rfl, hacc, HKr, HRr, HOr, HWr, HQr⟩ := hrel
    have hsz := HKr.out.size
    have hbl := HRr.out.lt
    have hal : acc.length ≤ 500000 := by have := hacc.out; omega
    by_cases hlt2 : (k : Int) < n
    · go_wp2_with fail
      refine (methodP B b restk _ HRr.out (by omega)).mono ?_
      rintro e w2 ⟨hk2, hp⟩
      have hk2s := hk2.size
      have HKc := Lib.hid hk2
      have HK2 := Lib.hid (HKr.out.trans hk2)
      clear hk2
      obtain ⟨r, HP⟩ : ∃ r, Hid (meP restk = r) := ⟨_, rfl⟩
      rw [HP.out] at hp
      rcases r with _ | ⟨x, r'⟩
      · have HQ2 : Hid (lstP meP bs = none) := HQr.out.trans (by rw [show n.toNat - k = (n.toNat - (k + 1)) + 1 by omega]; exact cont_none HP.out)
        subst hp
        unfold shortE
        go_wp2_with fail
        refine And.intro rfl ?_
        show Rp _ _ _ _ _ _ _
        unfold Rp
        rw [HQ2.out]
        exact ⟨HK2.out, rfl⟩
      · have HQ2 : Hid (lstP meP bs = Cont meP (n.toNat - (k + 1)) (acc ++ [x]) r') := HQr.out.trans (by rw [show n.toNat - k = (n.toNat - (k + 1)) + 1 by omega]; exact cont_some HP.out)
        have her := eats_me _ _ _ HP.out
        obtain ⟨v, rfl, ⟨cs, rfl, hV⟩, hR2⟩ := hp
        have hV' := Lib.hid hV
        obtain ⟨vp, vc, vh, rfl, okx, svp, svc, svh⟩ := hV
        have hV := hV'.out
        clear hV'
        obtain ⟨aa0, cap0, hva, _, _, _⟩ := svp
        subst hva
        obtain ⟨aa1, cap1, hva, _, _, _⟩ := svc
        subst hva
        obtain ⟨aa2, cap2, hva, _, _, _⟩ := svh
        subst hva
        have HV := Lib.hid hV
        have H2 := Lib.hid hR2
        have HO2 := Lib.hid (own_keep HOr.out HKc.out (by simp; exact fun g hg e => by have := (HOr.out.lt g hg).1; omega))
        clear hV hR2
        go_wp2_with (at_builtin; refine wpList_append_lies _ rfl (.tmp 26) (.tmp 29) 34 rfl w.heap.size 49 i0 (.agg #[.slice none 0 0, .int .i64 0, .int .i64 0, .int .i64 0, .int .i64 0, .int .i64 0, .slice none 0 0, .slice none 0 0]) 8 112 Try.underlying34 hi hz0 hz1 hz2 rfl (by decide) _ acc.length xs (by simp [Act.eval, Act.put]) (HO2.out.alloc _) ⟨w2.heap.size, 0, none⟩ 1 1 [.slice aa0 x.params.length cap0, .int .i64 x.ret.kind, .int .i64 x.ret.cls, .int .i64 x.stack, .int .i64 x.locals, .int .i64 x.regs, .slice aa1 x.code.length cap1, .slice aa2 x.handlers.length cap2] (by simp [Act.eval, Act.put]) rfl (by exact news_at _ _ _) (by simp [Value.oneCell']) (by decide) (by unfold maxLen; omega) (by omega) (by simp; omega) _ rfl ?_; intro g2 cap2 w3 hown3 hgrow3 hat3 hlt3; have HA := Lib.hid (item_added HK2.out H2.out HO2.out HWr.out HKc.out hlt hsz (fun g hg => (HOr.out.lt g hg).2) HV.out sMt rfl hown3 hgrow3 hat3); clear hown3 hgrow3 hat3)
        obtain ⟨a1, a2, a3, a4⟩ := HA.out
        have A1 := Lib.hid a1; have A2 := Lib.hid a2; have A3 := Lib.hid a3; have A4 := Lib.hid a4
        clear a1 a2 a3 a4 HA hlt3
        have hlen2 : acc.length + 1 = (acc ++ [x]).length := by simp
        have HL2 := Lib.hid hlen2
        clear hlen2
        go_wp2_with fail
        go_roundw
        case rel => exact ⟨k + 1, acc ++ [x], _, r', by omega, by omega, by go_num, Lib.hid (by have := hacc.out; simp; omega), A1, A2, A3, A4, HQ2⟩
        case measure => simp [intOf]; omega
    · have hkn : n.toNat - k = 0 := by omega
      have HQ2 : Hid (lstP meP bs = some (acc, restk)) := HQr.out.trans (by rw [hkn]; exact cont_zero _ _ _)
      have HS := Lib.hid (Row.sl sMt HWr.out HOr.out (by omega) (P' := Nw w.heap.size _) (fun k hk => ⟨hk.1, hk.2.1⟩) (fun g hg => HOr.out.lt g hg))
      clear hkn
      go_wp2_with fail
      go_ret
      unfold Rp
      rw [HQ2.out]
      exact ⟨HKr.out, _, rfl, HS.out, HRr.out⟩

end Wire
end Go.Proofs.Ytncmhenfgbcihaa

/- The reference's reader, as a world holds it; wide, number, many. -/
namespace Go.Proofs.Ytncmhenfgbcihaa
open Go.RowKit
set_option linter.unusedSimpArgs false
set_option linter.unusedVariables false
namespace Wire
open Num Rd D Bytes HierW

/-- the reference's reader at block b -/
def St (w : World) (B b : Nat) (all : List UInt8) (s : S) : Prop :=
  B ≤ b ∧ ∃ (v : Value) (k : Nat), w.cell? ⟨b, 0, none⟩ = some v ∧ Sl 1 EByte w B v all ∧ w.cell? ⟨b, 1, none⟩ = some (.int .i64 k) ∧ w.cell? ⟨b, 2, none⟩ = some (.bool s.isNone) ∧ k ≤ all.length ∧
    (∀ rs, s = some rs → rs = all.drop k) ∧ w.frozen? ⟨b, 1, none⟩ = false ∧ w.frozen? ⟨b, 2, none⟩ = false
theorem St.lt {w : World} {B b : Nat} {all : List UInt8} {s : S} (h : St w B b all s) : b < w.heap.size := by
  obtain ⟨_, _, _, h1, _⟩ := h; exact lt_cell' h1
theorem St.next {w w' : World} {B b : Nat} {all : List UInt8} {s : S} (h : St w B b all s) {X : List Nat} (hk : Wk X w w') (hX : ∀ x ∈ X, b < x) : St w' B b all s := by
  have h1 := h.lt
  obtain ⟨hB, v, k, c0, hs, c1, c2, hk', hr, f1, f2⟩ := h
  have hb : b ∉ X := fun h => by have := hX b h; omega
  exact ⟨hB, v, k, hk.cell c0 hb, hs.mono mByte (hk.below (by omega) (fun x hx => by have := hX x hx; omega)) (Nat.le_refl _), hk.cell c1 hb, hk.cell c2 hb, hk', hr, hk.frz f1 h1 hb, hk.frz f2 h1 hb⟩
theorem St.alloc {w : World} {B b : Nat} {all : List UInt8} {s : S} (h : St w B b all s) (o : Obj) : St (w.alloc o) B b all s := h.next (X := []) ((Wk.refl _ _).alloc o) (by simp)
/-- it fails -/
theorem St.fail {w : World} {B b : Nat} {all : List UInt8} {s : S} (h : St w B b all s) : St (w.setCell ⟨b, 2, none⟩ (.bool true)) B b all none := by
  obtain ⟨hB, v, k, c0, hs, c1, c2, hk', hr, f1, f2⟩ := h
  have hb := lt_cell' c0
  exact ⟨hB, v, k, by go_simp, hs.mono mByte (((Wk.refl [b] w).setCell (.inl (by simp)) _).below (by omega) (by simp; exact hB)) (Nat.le_refl _), by go_simp, by go_simp, hk', by simp, by go_simp, by go_simp⟩
/-- it goes on by eight -/
theorem St.go {w : World} {B b : Nat} {all rs : List UInt8} {k : Nat} (h : St w B b all (some rs)) (h1 : w.cell? ⟨b, 1, none⟩ = some (.int .i64 k)) (h8 : 8 ≤ rs.length) : St (w.setCell ⟨b, 1, none⟩ (.int .i64 ((k : Int) + 8))) B b all (some (rs.drop 8)) := by
  obtain ⟨hB, v, k', c0, hs, c1, c2, hk', hr, f1, f2⟩ := h
  have hb := lt_cell' c0
  rw [h1] at c1
  injection c1 with c1; injection c1 with _ c1
  obtain rfl : k = k' := by omega
  have hrs := hr rs rfl
  have hl : rs.length = all.length - k := by rw [hrs, List.length_drop]
  refine ⟨hB, v, k + 8, by go_simp, hs.mono mByte (((Wk.refl [b] w).setCell (.inl (by simp)) _).below (by omega) (by simp; exact hB)) (Nat.le_refl _), by go_simp, by go_simp, by omega, fun rs' h' => ?_, by go_simp, by go_simp⟩
  injection h' with h'
  rw [← h', hrs, List.drop_drop]

/-- what a method of the reference's reader leaves -/
def RT {α : Type} (t : α × S) (R : α → Value → World → Prop) (B b : Nat) (all : List UInt8) (w : World) (e : Ending) (w' : World) : Prop :=
  Wk [b] w w' ∧ ∃ v, e = .returned v ∧ R t.1 v w' ∧ St w' B b all t.2

theorem wrap_sum (x c : Int) : wrap64 (wrap64 (x * 256) + c) = wrap64 (x * 256 + c) := by unfold wrap64; omega

set_option maxRecDepth 100000 in
set_option maxHeartbeats 4000000 in
theorem wideT (B b : Nat) (all : List UInt8) (s : S) (w : World) (h : St w B b all s) (hlen : all.length ≤ 4000000) :
    Calls Try.prog 105 #[.pointer (some ⟨b, 0, none⟩)] w (RT (rdT s) RInt B b all w) := by
  have hR := Lib.hid h
  have hlt := h.lt
  obtain ⟨hB, v, k, c0, ⟨a, cap, rfl, hlc, hcc, hel⟩, c1, c2, hk, hr, f1, f2⟩ := h
  cases s with
  | none =>
    simp only [Option.isNone_none] at c2
    clear hel hr
    go_enter Try.func105, Try.ntmps105
    go_wp2_with fail
    refine wp_region_held_drew (S := fun w' => w'.cell? ⟨b, 2, none⟩ = some (.bool true)) (by kernel_rfl) (by (try dsimp only); exact c2) (fun hHeld => ?_)
    refine Drawn.tk 0 (some 5) rfl rfl (by assumption) ?_
    try simp only [Act.put, List.setIfInBounds_toArray, List.set_cons_zero, List.set_cons_succ]
    refine Drawn.tk 1 (some 6) rfl rfl (by assumption) ?_
    try simp only [Act.put, List.setIfInBounds_toArray, List.set_cons_zero, List.set_cons_succ]
    refine Drawn.tk 2 (some 7) rfl rfl (by assumption) ?_
    try simp only [Act.put, List.setIfInBounds_toArray, List.set_cons_zero, List.set_cons_succ]
    refine Drawn.tk 3 (some 8) rfl rfl (by assumption) ?_
    try simp only [Act.put, List.setIfInBounds_toArray, List.set_cons_zero, List.set_cons_succ]
    refine Drawn.tk 4 (some 9) rfl rfl (by assumption) ?_
    try simp only [Act.put, List.setIfInBounds_toArray, List.set_cons_zero, List.set_cons_succ]
    refine Drawn.ps 5 (some 10) rfl rfl (by assumption) ?_
    try simp only [Act.put, List.setIfInBounds_toArray, List.set_cons_zero, List.set_cons_succ]
    refine Drawn.ps 6 (some 11) rfl rfl (by assumption) ?_
    try simp only [Act.put, List.setIfInBounds_toArray, List.set_cons_zero, List.set_cons_succ]
    refine Drawn.ps 7 (some 12) rfl rfl (by assumption) ?_
    try simp only [Act.put, List.setIfInBounds_toArray, List.set_cons_zero, List.set_cons_succ]
    refine Drawn.ps 8 (some 13) rfl rfl (by assumption) ?_
    try simp only [Act.put, List.setIfInBounds_toArray, List.set_cons_zero, List.set_cons_succ]
    refine Drawn.ps 9 (some 14) rfl rfl (by assumption) ?_
    try simp only [Act.put, List.setIfInBounds_toArray, List.set_cons_zero, List.set_cons_succ]
    refine Drawn.ps 10 (some 15) rfl rfl (by assumption) ?_
    try simp only [Act.put, List.setIfInBounds_toArray, List.set_cons_zero, List.set_cons_succ]
    refine Drawn.ps 11 (some 16) rfl rfl (by assumption) ?_
    try simp only [Act.put, List.setIfInBounds_toArray, List.set_cons_zero, List.set_cons_succ]
    refine Drawn.ps 12 (some 17) rfl rfl (by assumption) ?_
    try simp only [Act.put, List.setIfInBounds_toArray, List.set_cons_zero, List.set_cons_succ]
    refine Drawn.ps 13 (some 18) rfl rfl (by assumption) ?_
    try simp only [Act.put, List.setIfInBounds_toArray, List.set_cons_zero, List.set_cons_succ]
    refine Drawn.ps 14 (some 19) rfl rfl (by assumption) ?_
    try simp only [Act.put, List.setIfInBounds_toArray, List.set_cons_zero, List.set_cons_succ]
    refine Drawn.ps 15 (some 20) rfl rfl (by assumption) ?_
    try simp only [Act.put, List.setIfInBounds_toArray, List.set_cons_zero, List.set_cons_succ]
    refine Drawn.tk 16 (some 21) rfl rfl (by assumption) ?_
    try simp only [Act.put, List.setIfInBounds_toArray, List.set_cons_zero, List.set_cons_succ]
    refine wpAnyH_done (by kernel_rfl) ?_ _
    go_wp2_with fail
    go_ret
    exact ⟨((Wk.refl _ _).drew).setCell (.inl (by simp)) _, _, rfl, rfl, hR.out.fail⟩
  | some rs =>
    have hrs := hr rs rfl
    have hl : rs.length = all.length - k := by rw [hrs, List.length_drop]
    simp only [Option.isNone_some] at c2
    have hsub : IntKind.i64.wrap ((all.length : Int) - k) = (all.length : Int) - k := by rw [Num.wrap_i64, wrap64_id (by unfold Ok; omega)]
    by_cases hs : rs.length < 8
    · have hd : decide ((all.length : Int) - k < 8) = true := by simp; omega
      have hT : Hid (rdT (some rs) = (0, none)) := by show _ = _; simp only [rdT]; rw [if_pos hs]
      have HS := Lib.hid hs
      clear hel hr hl hs hrs
      go_enter Try.func105, Try.ntmps105
      go_wp2_with fail
      refine wp_region_held_drew (S := fun w' => w'.cell? ⟨b, 2, none⟩ = some (.bool false) ∧ w'.cell? ⟨b, 0, none⟩ = some (.slice a all.length cap) ∧ w'.cell? ⟨b, 1, none⟩ = some (.int .i64 k)) (by kernel_rfl) (by (try dsimp only); exact ⟨c2, c0, c1⟩) (fun hHeld => ?_)
      refine Drawn.tk 0 (some 5) rfl rfl (by assumption) ?_
      try simp only [Act.put, List.setIfInBounds_toArray, List.set_cons_zero, List.set_cons_succ]
      refine Drawn.tk 1 (some 6) rfl rfl (by assumption) ?_
      try simp only [Act.put, List.setIfInBounds_toArray, List.set_cons_zero, List.set_cons_succ]
      refine Drawn.tk 2 (some 7) rfl rfl (by assumption) ?_
      try simp only [Act.put, List.setIfInBounds_toArray, List.set_cons_zero, List.set_cons_succ]
      refine Drawn.tk 3 (some 8) rfl rfl (by assumption) ?_
      try simp only [Act.put, List.setIfInBounds_toArray, List.set_cons_zero, List.set_cons_succ]
      refine Drawn.tk 4 (some 9) rfl rfl (by assumption) ?_
      try simp only [Act.put, List.setIfInBounds_toArray, List.set_cons_zero, List.set_cons_succ]
      refine Drawn.tk 5 (some 10) rfl rfl (by assumption) ?_
      try simp only [Act.put, List.setIfInBounds_toArray, List.set_cons_zero, List.set_cons_succ]
      refine Drawn.tk 6 (some 11) rfl rfl (by assumption) ?_
      try simp only [Act.put, List.setIfInBounds_toArray, List.set_cons_zero, List.set_cons_succ]
      refine Drawn.tk 7 (some 12) rfl rfl (by assumption) ?_
      try simp only [Act.put, List.setIfInBounds_toArray, List.set_cons_zero, List.set_cons_succ]
      refine Drawn.tk 8 (some 13) rfl rfl (by assumption) ?_
      try simp only [Act.put, List.setIfInBounds_toArray, List.set_cons_zero, List.set_cons_succ]
      refine Drawn.tk 9 (some 14) rfl rfl (by assumption) ?_
      try simp only [Act.put, List.setIfInBounds_toArray, List.set_cons_zero, List.set_cons_succ]
      refine Drawn.tk 10 (some 15) rfl rfl (by assumption) ?_
      try simp only [Act.put, List.setIfInBounds_toArray, List.set_cons_zero, List.set_cons_succ]
      refine Drawn.tk 11 (some 16) rfl rfl (by assumption) ?_
      try simp only [Act.put, List.setIfInBounds_toArray, List.set_cons_zero, List.set_cons_succ]
      refine Drawn.tk 12 (some 17) rfl rfl (by assumption) ?_
      try simp only [Act.put, List.setIfInBounds_toArray, List.set_cons_zero, List.set_cons_succ]
      refine Drawn.tk 13 (some 18) rfl rfl (by assumption) ?_
      try simp only [Act.put, List.setIfInBounds_toArray, List.set_cons_zero, List.set_cons_succ]
      refine Drawn.tk 14 (some 19) rfl rfl (by assumption) ?_
      try simp only [Act.put, List.setIfInBounds_toArray, List.set_cons_zero, List.set_cons_succ]
      refine Drawn.tk 15 (some 20) rfl rfl (by assumption) ?_
      try simp only [Act.put, List.setIfInBounds_toArray, List.set_cons_zero, List.set_cons_succ]
      refine Drawn.tk 16 (some 21) rfl rfl (by assumption) ?_
      try simp only [Act.put, List.setIfInBounds_toArray, List.set_cons_zero, List.set_cons_succ]
      refine wpAnyH_done (by kernel_rfl) ?_ _
      clear hsub
      go_wp2_with fail
      go_ret
      unfold RT
      rw [hT.out]
      exact ⟨((Wk.refl _ _).drew).setCell (.inl (by simp)) _, _, rfl, rfl, hR.out.fail⟩
    · have hd : decide ((all.length : Int) - k < 8) = false := by simp; omega
      have hT : Hid (rdT (some rs) = (val (rs.take 8), some (rs.drop 8))) := by show _ = _; simp only [rdT]; rw [if_neg hs]
      obtain ⟨g, o, rfl, hg, he0⟩ := hel 0 (by omega)
      clear he0
      have hbyte : Hid (∀ i, i < rs.length → ∃ c : UInt8, Hid (rs[i]? = some c) ∧ w.cell? ⟨g, o + (k + i), none⟩ = some (.int .u8 c.toNat)) := fun i hi => by
        obtain ⟨g', o', hgo, _, he⟩ := hel (k + i) (by omega)
        injection hgo with hgo; injection hgo with h1 h2
        subst h1; subst h2
        refine ⟨all[k + i]'(by omega), ?_, by rw [Nat.mul_one] at he; exact he⟩
        have e1 : rs[i]? = (all.drop k)[i]? := congrArg (fun l : List UInt8 => l[i]?) hrs
        show _ = _
        rw [e1, List.getElem?_drop, List.getElem?_eq_getElem]
      have HL := Lib.hid hl
      have HS := Lib.hid hs
      clear hel hr hrs
      go_enter Try.func105, Try.ntmps105
      go_wp2_with fail
      refine wp_region_held_drew (S := fun w' => w'.cell? ⟨b, 2, none⟩ = some (.bool false) ∧ w'.cell? ⟨b, 0, none⟩ = some (.slice (some ⟨g, o, none⟩) all.length cap) ∧ w'.cell? ⟨b, 1, none⟩ = some (.int .i64 k)) (by kernel_rfl) (by (try dsimp only); exact ⟨c2, c0, c1⟩) (fun hHeld => ?_)
      refine Drawn.tk 0 (some 5) rfl rfl (by assumption) ?_
      try simp only [Act.put, List.setIfInBounds_toArray, List.set_cons_zero, List.set_cons_succ]
      refine Drawn.tk 1 (some 6) rfl rfl (by assumption) ?_
      try simp only [Act.put, List.setIfInBounds_toArray, List.set_cons_zero, List.set_cons_succ]
      refine Drawn.tk 2 (some 7) rfl rfl (by assumption) ?_
      try simp only [Act.put, List.setIfInBounds_toArray, List.set_cons_zero, List.set_cons_succ]
      refine Drawn.tk 3 (some 8) rfl rfl (by assumption) ?_
      try simp only [Act.put, List.setIfInBounds_toArray, List.set_cons_zero, List.set_cons_succ]
      refine Drawn.tk 4 (some 9) rfl rfl (by assumption) ?_
      try simp only [Act.put, List.setIfInBounds_toArray, List.set_cons_zero, List.set_cons_succ]
      refine Drawn.tk 5 (some 10) rfl rfl (by assumption) ?_
      try simp only [Act.put, List.setIfInBounds_toArray, List.set_cons_zero, List.set_cons_succ]
      refine Drawn.tk 6 (some 11) rfl rfl (by assumption) ?_
      try simp only [Act.put, List.setIfInBounds_toArray, List.set_cons_zero, List.set_cons_succ]
      refine Drawn.tk 7 (some 12) rfl rfl (by assumption) ?_
      try simp only [Act.put, List.setIfInBounds_toArray, List.set_cons_zero, List.set_cons_succ]
      refine Drawn.tk 8 (some 13) rfl rfl (by assumption) ?_
      try simp only [Act.put, List.setIfInBounds_toArray, List.set_cons_zero, List.set_cons_succ]
      refine Drawn.tk 9 (some 14) rfl rfl (by assumption) ?_
      try simp only [Act.put, List.setIfInBounds_toArray, List.set_cons_zero, List.set_cons_succ]
      refine Drawn.tk 10 (some 15) rfl rfl (by assumption) ?_
      try simp only [Act.put, List.setIfInBounds_toArray, List.set_cons_zero, List.set_cons_succ]
      refine Drawn.tk 11 (some 16) rfl rfl (by assumption) ?_
      try simp only [Act.put, List.setIfInBounds_toArray, List.set_cons_zero, List.set_cons_succ]
      refine Drawn.tk 12 (some 17) rfl rfl (by assumption) ?_
      try simp only [Act.put, List.setIfInBounds_toArray, List.set_cons_zero, List.set_cons_succ]
      refine Drawn.tk 13 (some 18) rfl rfl (by assumption) ?_
      try simp only [Act.put, List.setIfInBounds_toArray, List.set_cons_zero, List.set_cons_succ]
      refine Drawn.tk 14 (some 19) rfl rfl (by assumption) ?_
      try simp only [Act.put, List.setIfInBounds_toArray, List.set_cons_zero, List.set_cons_succ]
      refine Drawn.tk 15 (some 20) rfl rfl (by assumption) ?_
      try simp only [Act.put, List.setIfInBounds_toArray, List.set_cons_zero, List.set_cons_succ]
      refine Drawn.tk 16 (some 21) rfl rfl (by assumption) ?_
      try simp only [Act.put, List.setIfInBounds_toArray, List.set_cons_zero, List.set_cons_succ]
      refine wpAnyH_done (by kernel_rfl) ?_ _
      clear hsub hl hs
      go_wp2_with fail
      go_loopw [3, 4] (fun n i wr => ∃ j : Nat, j ≤ 8 ∧ i = .int .i64 j ∧ n = .int .i64 (val (rs.take j)) ∧ Hid (Wk [] w wr)) (fun _ i _ => 8 - (intOf i).toNat)
      case atStart => exact ⟨0, by omega, rfl, by simp [val, natv, wrap64], (Wk.refl _ _).drew⟩
      case round =>
        obtain ⟨j, hj, rfl, rfl, hw⟩ := hrel
        have d0 := hw.out.cell c0 (by simp)
        have d1 := hw.out.cell c1 (by simp)
        have e1 := hw.out.frz f1 hlt (by simp)
        have hrl := HL.out
        have hs8 := HS.out
        by_cases hlt2 : j < 8
        · obtain ⟨c, hcq, hcell⟩ := hbyte.out j (by omega)
          have dc := hw.out.cell hcell (by simp)
          have hst := Lib.hid (take_byte hcq.out)
          have hws := Lib.hid (wrap_sum (val (rs.take j)) c.toNat)
          have hc8 := c.toNat_lt
          have hkj : IntKind.i64.wrap ((k : Int) + j) = (k : Int) + j := by rw [Num.wrap_i64, wrap64_id (by unfold Ok; omega)]
          have hkj2 : IntKind.i64.wrap ((c.toNat : Int)) = (c.toNat : Int) := by rw [Num.wrap_i64, wrap64_id (by unfold Ok; omega)]
          have hI1 : (0 : Int) ≤ (k : Int) + j := by omega
          have hI2 : (k : Int) + j < all.length := by omega
          have hI3 : ((k : Int) + j).toNat = k + j := by omega
          clear hrl hs8
          go_wp2_with fail
          refine wp_region_held_drew (S := fun w' => w'.cell? ⟨b, 0, none⟩ = some (.slice (some ⟨g, o, none⟩) all.length cap) ∧ w'.cell? ⟨b, 1, none⟩ = some (.int .i64 k) ∧ w'.cell? ⟨g, o + (k + j), none⟩ = some (.int .u8 c.toNat)) (by kernel_rfl) (by (try dsimp only); exact ⟨d0, d1, dc⟩) (fun hHeld => ?_)
          refine Drawn.tk 0 (some 29) rfl rfl (by assumption) ?_
          try simp only [Act.put, List.setIfInBounds_toArray, List.set_cons_zero, List.set_cons_succ]
          refine Drawn.tk 1 (some 30) rfl rfl (by assumption) ?_
          try simp only [Act.put, List.setIfInBounds_toArray, List.set_cons_zero, List.set_cons_succ]
          refine Drawn.tk 2 (some 31) rfl rfl (by assumption) ?_
          try simp only [Act.put, List.setIfInBounds_toArray, List.set_cons_zero, List.set_cons_succ]
          refine Drawn.tk 3 (some 32) rfl rfl (by assumption) ?_
          try simp only [Act.put, List.setIfInBounds_toArray, List.set_cons_zero, List.set_cons_succ]
          refine Drawn.tk 4 (some 33) rfl rfl (by assumption) ?_
          try simp only [Act.put, List.setIfInBounds_toArray, List.set_cons_zero, List.set_cons_succ]
          refine Drawn.tk 5 (some 34) rfl rfl (by assumption) ?_
          try simp only [Act.put, List.setIfInBounds_toArray, List.set_cons_zero, List.set_cons_succ]
          refine Drawn.tk 6 (some 35) rfl rfl (by assumption) ?_
          try simp only [Act.put, List.setIfInBounds_toArray, List.set_cons_zero, List.set_cons_succ]
          refine Drawn.tk 7 (some 36) rfl rfl (by assumption) ?_
          try simp only [Act.put, List.setIfInBounds_toArray, List.set_cons_zero, List.set_cons_succ]
          refine Drawn.tk 8 (some 37) rfl rfl (by assumption) ?_
          try simp only [Act.put, List.setIfInBounds_toArray, List.set_cons_zero, List.set_cons_succ]
          refine Drawn.tk 9 (some 38) rfl rfl (by assumption) ?_
          try simp only [Act.put, List.setIfInBounds_toArray, List.set_cons_zero, List.set_cons_succ]
          refine Drawn.tk 10 (some 39) rfl rfl (by assumption) ?_
          try simp only [Act.put, List.setIfInBounds_toArray, List.set_cons_zero, List.set_cons_succ]
          refine Drawn.tk 11 (some 40) rfl rfl (by assumption) ?_
          try simp only [Act.put, List.setIfInBounds_toArray, List.set_cons_zero, List.set_cons_succ]
          refine Drawn.tk 12 (some 41) rfl rfl (by assumption) ?_
          try simp only [Act.put, List.setIfInBounds_toArray, List.set_cons_zero, List.set_cons_succ]
          refine Drawn.tk 13 (some 42) rfl rfl (by assumption) ?_
          try simp only [Act.put, List.setIfInBounds_toArray, List.set_cons_zero, List.set_cons_succ]
          refine Drawn.tk 14 (some 43) rfl rfl (by assumption) ?_
          try simp only [Act.put, List.setIfInBounds_toArray, List.set_cons_zero, List.set_cons_succ]
          refine Drawn.tk 15 (some 44) rfl rfl (by assumption) ?_
          try simp only [Act.put, List.setIfInBounds_toArray, List.set_cons_zero, List.set_cons_succ]
          refine Drawn.tk 16 (some 3) rfl rfl (by assumption) ?_
          try simp only [Act.put, List.setIfInBounds_toArray, List.set_cons_zero, List.set_cons_succ]
          refine wpAnyH_done (by kernel_rfl) ?_ _
          clear hkj hkj2
          go_wp2_with fail
          go_roundw
          case rel => exact ⟨j + 1, by omega, by go_num, by rw [hst.out]; simp only [Num.wrap_i64]; rw [hws.out], hw.out.drew⟩
          case measure => simp [intOf]; omega
        · obtain rfl : j = 8 := by omega
          have hs1 : IntKind.i64.wrap ((k : Int) + 8) = (k : Int) + 8 := by rw [Num.wrap_i64, wrap64_id (by unfold Ok; omega)]
          have hR2 := Lib.hid ((hR.out.next hw.out (by simp)).go d1 (by omega))
          have hh8 : ¬ (((8 : Nat) : Int) < 8) := by omega
          clear hrl hs8
          go_wp2_with fail
          go_ret
          unfold RT
          rw [hT.out]
          exact ⟨(hw.out.mono (by simp)).setCell (.inl (by simp)) _, _, rfl, rfl, hR2.out⟩

set_option maxHeartbeats 1000000 in
theorem numberT (B b : Nat) (all : List UInt8) (s : S) (w : World) (h : St w B b all s) (hlen : all.length ≤ 4000000) :
    Calls Try.prog 77 #[.pointer (some ⟨b, 0, none⟩)] w (RT (rdT s) RInt B b all w) := by
  have hR := Lib.hid h
  clear h
  go_enter Try.func77, Try.ntmps77
  go_wp2_with fail
  refine (wideT B b all s _ hR.out hlen).mono ?_
  rintro e w1 ⟨hk, v, rfl, hv, hS⟩
  unfold RInt at hv
  subst hv
  have HK := Lib.hid hk; have HS := Lib.hid hS
  clear hk hS
  go_wp2_with fail
  go_ret
  exact ⟨HK.out, _, rfl, rfl, HS.out⟩

set_option maxHeartbeats 1000000 in
theorem manyTw (B b : Nat) (all : List UInt8) (s : S) (w : World) (h : St w B b all s) (hlen : all.length ≤ 4000000) :
    Calls Try.prog 76 #[.pointer (some ⟨b, 0, none⟩)] w (RT (manyT s) RInt B b all w) := by
  have hR := Lib.hid h
  clear h
  go_enter Try.func76, Try.ntmps76
  go_wp2_with fail
  refine (numberT B b all s _ hR.out hlen).mono ?_
  rintro e w1 ⟨hk, v, rfl, hv, hS⟩
  unfold RInt at hv
  subst hv
  have HK := Lib.hid hk; have HS := Lib.hid hS
  have c2 : ∃ x, w1.cell? ⟨b, 2, none⟩ = some x ∧ w1.frozen? ⟨b, 2, none⟩ = false := by
    obtain ⟨_, _, _, _, _, _, c2, _, _, _, f2⟩ := hS; exact ⟨_, c2, f2⟩
  obtain ⟨x, c2, f2⟩ := c2
  clear hk hS
  by_cases hn : (rdT s).1 < 0
  · have hT : Hid (manyT s = ((rdT s).1, none)) := by show _ = _; unfold manyT; rw [if_pos hn]
    obtain ⟨n, hnn⟩ : ∃ n, Hid ((rdT s).1 = n) := ⟨_, rfl⟩
    rw [hnn.out] at hn
    rw [hnn.out] at hT ⊢
    go_wp2_with fail
    go_ret
    unfold RT
    rw [hT.out]
    exact ⟨HK.out.setCell (.inl (by simp)) _, _, rfl, rfl, HS.out.fail⟩
  · have hT : Hid (manyT s = rdT s) := by show _ = _; unfold manyT; rw [if_neg hn]
    obtain ⟨n, hnn⟩ : ∃ n, Hid ((rdT s).1 = n) := ⟨_, rfl⟩
    rw [hnn.out] at hn ⊢
    go_wp2_with fail
    go_ret
    unfold RT
    rw [hT.out]
    exact ⟨HK.out, _, rfl, hnn.out ▸ rfl, HS.out⟩
end Wire
end Go.Proofs.Ytncmhenfgbcihaa

/- The reference's reader: lists of types. -/
namespace Go.Proofs.Ytncmhenfgbcihaa
open Go.RowKit
set_option linter.unusedSimpArgs false
set_option linter.unusedVariables false
namespace Wire
open Num Rd D Bytes HierW

/-- an element behind those that were read -/
theorem item_addedS {α : Type} {V : World → (Nat → Prop) → List Value → α → Prop} {w wr w2 w3 : World} {B b g2 cap2 size : Nat} {T : TypeId} {all : List UInt8} {s' : S} {v : Value} {xs cs : List Value} {acc : List α} {x : α} {o : Obj}
    (HK2 : Wk [b] w w2) (H2 : St w2 B b all s') (HO2 : w2.ownsRow w.heap.size T size v acc.length xs) (HW : Row V size wr (Rw w.heap.size wr v) xs acc) (HKc : Wk [b] wr w2) (hlt : b < w.heap.size) (hge : w.heap.size ≤ wr.heap.size) (hvr : ∀ g, v.ownBlock = some g → g < wr.heap.size)
    (HV : V w2 (Nw wr.heap.size w2.heap.size) cs x) (sV : Stays V) (hcs : cs.length = size)
    (hown : w3.ownsRow w.heap.size T size (.slice (some ⟨g2, 0, none⟩) (acc.length + 1) cap2) (acc.length + 1) (xs ++ cs)) (hgrow : (w2.alloc o).grownBy w3 v.ownBlock) (hat : v.ownBlock = some g2 ∨ g2 = (w2.alloc o).heap.size) :
    Wk [b] w w3 ∧ St w3 B b all s' ∧ w3.ownsRow w.heap.size T size (.slice (some ⟨g2, 0, none⟩) (acc.length + 1) cap2) (acc ++ [x]).length (xs ++ cs) ∧ Row V size w3 (Rw w.heap.size w3 (.slice (some ⟨g2, 0, none⟩) (acc.length + 1) cap2)) (xs ++ cs) (acc ++ [x]) := by
  have hs : (w2.alloc o).heap.size = w2.heap.size + 1 := by simp
  have h23 : w2.heap.size + 1 ≤ w3.heap.size := by rw [← hs]; exact hgrow.size
  have hr2 := HKc.size
  have hat' : v.ownBlock = some g2 ∨ g2 = w2.heap.size + 1 := by rw [hs] at hat; exact hat
  have hvlo : ∀ g, v.ownBlock = some g → w.heap.size ≤ g := fun g hg => (HO2.lt g hg).1
  have blk : ∀ k, k < w2.heap.size → v.ownBlock ≠ some k → w3.heap[k]? = w2.heap[k]? := fun k hk hn =>
    (hgrow.block k (by omega) (fun e => hn e.symm)).trans (heap_alloc_old w2 o hk)
  have HK23 : Wk (match v.ownBlock with | some g => [g] | none => []) w2 w3 := by
    refine ((Wk.refl _ w2).alloc o).trans (Wk.of_grown hgrow (fun k hk => ?_))
    rw [hk]; simp
  refine ⟨HK2.trans' HK23 (fun y hy => ?_), H2.next HK23 (fun y hy => ?_), by simpa using hown, Row.snoc (Row.stays sV (fun k hk => ?_) HW) hcs (sV _ _ _ _ _ _ (fun k hk => ?_) HV)⟩
  · cases hv : v.ownBlock with
    | none => rw [hv] at hy; simp at hy
    | some g => rw [hv] at hy; simp at hy; subst hy; exact .inr (hvlo _ hv)
  · cases hv : v.ownBlock with
    | none => rw [hv] at hy; simp at hy
    | some g => rw [hv] at hy; simp at hy; subst hy; have := hvlo _ hv; omega
  · obtain ⟨k1, k2, k3⟩ := hk
    refine ⟨⟨k1, by omega, ?_⟩, (blk k (by omega) k3).trans (HKc.block k k2 (by simp; omega))⟩
    simp only [Value.ownBlock]
    rcases hat' with e | e
    · rw [e] at k3; exact k3
    · intro e2; injection e2 with e2; omega
  · obtain ⟨k1, k2⟩ := hk
    have hvk : v.ownBlock ≠ some k := fun e => by have := hvr k e; omega
    refine ⟨⟨by omega, by omega, ?_⟩, blk k k2 hvk⟩
    simp only [Value.ownBlock]
    rcases hat' with e | e
    · rw [e] at hvk; exact hvk
    · intro e2; injection e2 with e2; omega


theorem news_set (w : World) (cs : List Value) (t : TypeId) (n : Nat) (hn : n = w.heap.size) : ∀ j u, cs[j]? = some u → (w.alloc (.cells cs.toArray t)).cell? ((⟨n, 0, none⟩ : Addr).add j) = some u := by subst hn; exact news_at w cs t
theorem flag {w : World} {B b : Nat} {all : List UInt8} {s : S} (h : St w B b all s) : w.cell? ⟨b, 2, none⟩ = some (.bool s.isNone) := by
  obtain ⟨_, _, _, _, _, _, c2, _⟩ := h; exact c2
theorem rdT_ok (s : S) : Ok (rdT s).1 := by
  cases s with
  | none => simp only [rdT]; unfold Ok; omega
  | some rs => simp only [rdT]; split
               · unfold Ok; simp
               · exact val_ok _
theorem manyT_ok (s : S) : Ok (manyT s).1 := by unfold manyT; split <;> exact rdT_ok s
theorem less_rd (s : S) (r : List UInt8) (h : (rdT s).2 = some r) : ∃ rs, s = some rs ∧ r.length + 8 ≤ rs.length := by
  cases s with
  | none => simp [rdT] at h
  | some rs => exact ⟨rs, rfl, eatsT_of tot_rd rd_wrote (fun x => by rw [wide_len]; omega) rs r h⟩

set_option maxRecDepth 100000 in
set_option maxHeartbeats 8000000 in
theorem typesT (B b : Nat) (all : List UInt8) (s : S) (w : World) (h : St w B b all s) (hlen : all.length ≤ 4000000) :
    Calls Try.prog 78 #[.pointer (some ⟨b, 0, none⟩)] w (RT (lstT tyT s) (RL VTy 2 w.heap.size) B b all w) := by
  obtain ⟨i0, hi, hz0, hz1, hz2⟩ := info_parts info_Ty
  have hR := Lib.hid h
  have hlt := h.lt
  clear h
  go_enter Try.func78, Try.ntmps78
  go_wp2_with fail
  refine (manyTw B b all s _ hR.out hlen).mono ?_
  rintro e w1 ⟨hk, v, rfl, hv, hS⟩
  unfold RInt at hv
  subst hv
  have HK := Lib.hid hk; have HS := Lib.hid hS
  have okn := manyT_ok s
  have hm0 : Hid (∀ rs, (manyT s).2 = some rs → rs.length ≤ 4000000) := fun rs h => by
    obtain ⟨_, _, k, _, _, _, _, hk', hr, _⟩ := hS
    rw [hr rs h, List.length_drop]; omega
  obtain ⟨n, hn⟩ : ∃ n, Hid ((manyT s).1 = n) := ⟨_, rfl⟩
  obtain ⟨s1, hs1⟩ : ∃ s1, Hid ((manyT s).2 = s1) := ⟨_, rfl⟩
  rw [hn.out] at okn ⊢
  rw [hs1.out] at HS hm0
  have HL0 : Hid (lstT tyT s = ([] ++ (listT tyT (n.toNat - 0) s1).1, (listT tyT (n.toNat - 0) s1).2)) := by
    show _ = _
    rw [← hn.out, ← hs1.out]; rfl
  unfold Ok at okn
  clear hk hS
  go_wp2_with fail
  go_loopw [3, 5] (fun v i wr => ∃ (k : Nat) (acc : List Ty) (xs : List Value) (s' : S), ((k : Int) ≤ n ∨ k = 0) ∧ k ≤ 500001 ∧ i = .int .i64 k ∧ Hid (acc.length = k) ∧ Hid (Wk [b] w wr) ∧ Hid (St wr B b all s') ∧ Hid (wr.ownsRow w.heap.size 46 2 v acc.length xs) ∧ Hid (Row VTy 2 wr (Rw w.heap.size wr v) xs acc) ∧ Hid (∀ rs, s' = some rs → rs.length + 8 * k ≤ 4000000) ∧ Hid (lstT tyT s = (acc ++ (listT tyT (n.toNat - k) s').1, (listT tyT (n.toNat - k) s').2))) (fun _ i _ => n.toNat - (intOf i).toNat)
  case atStart => exact ⟨0, [], [], s1, by omega, by omega, rfl, rfl, HK, HS, World.ownsRow_nil _ _ _ _, Row.nil _ _ _ _, Lib.hid (fun rs h => by have := hm0.out rs h; omega), HL0⟩
  case round =>
    obtain ⟨k, acc, xs, s', hkn, hk5, rfl, hacc, HKr, HSr, HOr, HWr, hbd, HLr⟩ := hrel
    have hsz := HKr.out.size
    have hbl := HSr.out.lt
    have hfl := flag HSr.out
    have hal : acc.length ≤ 500001 := by have := hacc.out; omega
    have stop : (n.toNat - k = 0 ∨ s' = none) → Hid (lstT tyT s = (acc, s')) := fun h => listT_stop HLr.out h
    have fin : Hid (SlV VTy 2 _ (Nw w.heap.size _) _ acc) := Lib.hid (Row.sl sTy HWr.out HOr.out (by omega) (P' := Nw w.heap.size _) (fun k hk => ⟨hk.1, hk.2.1⟩) (fun g hg => HOr.out.lt g hg))
    by_cases hlt2 : (k : Int) < n
    · cases s' with
      | none =>
        have HT := stop (.inr rfl)
        simp only [Option.isNone_none] at hfl
        clear stop
        go_wp2_with fail
        go_ret
        unfold RT
        rw [HT.out]
        exact ⟨HKr.out, _, rfl, fin.out, HSr.out⟩
      | some rs =>
        simp only [Option.isNone_some] at hfl
        have hrl := hbd.out rs rfl
        have hnk : n.toNat - k = (n.toNat - (k + 1)) + 1 := by omega
        have HL2 : Hid (lstT tyT s = ((acc ++ [(tyT (some rs)).1]) ++ (listT tyT (n.toNat - (k + 1)) (tyT (some rs)).2).1, (listT tyT (n.toNat - (k + 1)) (tyT (some rs)).2).2)) := listT_step (by have := HLr.out; rw [hnk] at this; exact this)
        have HB2 : Hid (∀ r, (tyT (some rs)).2 = some r → r.length + 8 * (k + 1) ≤ 4000000) := fun r h => by
          have := eatsT_of tot_ty ty_wrote (fun x => by simp [tyB, wide_len]) rs r h; omega
        clear stop fin hrl hnk
        obtain ⟨⟨a, sa⟩, HA⟩ : ∃ y, Hid (rdT (some rs) = y) := ⟨_, rfl⟩
        obtain ⟨⟨c, sc⟩, HC⟩ : ∃ y, Hid (rdT sa = y) := ⟨_, rfl⟩
        have HT : Hid (tyT (some rs) = (⟨a, c⟩, sc)) := by
          show _ = _
          simp only [tyT, HA.out, HC.out]
        have oka : Ok a := by have := rdT_ok (some rs); rw [HA.out] at this; exact this
        have okc : Ok c := by have := rdT_ok sa; rw [HC.out] at this; exact this
        rw [HT.out] at HL2 HB2
        have hM : Hid (Blk (wr.alloc (.cells #[.int .i64 0, .int .i64 0] 46)) wr.heap.size [.int .i64 0, .int .i64 0]) := by
          show Blk _ _ _
          intro j hj
          match j, hj with
          | 0, _ => exact ⟨by go_simp; try rfl, by go_simp⟩
          | 1, _ => exact ⟨by go_simp; try rfl, by go_simp⟩
        go_wp2_with fail
        refine (numberT B b all (some rs) _ (HSr.out.alloc _) hlen).mono ?_
        rw [HA.out]
        rintro e w2 ⟨hk2, v2, rfl, hv2, hS2⟩
        unfold RInt at hv2
        subst hv2
        have HK2 := Lib.hid (((Wk.refl [b] wr).alloc _).trans hk2)
        have HM2 := Lib.hid (hM.out.next hk2 (by simp; omega))
        have H2 := Lib.hid hS2
        have m0 : w2.cell? ⟨wr.heap.size, 0, none⟩ = some (.int .i64 0) := (HM2.out 0 (by simp)).1
        have m1 : w2.frozen? ⟨wr.heap.size, 0, none⟩ = false := (HM2.out 0 (by simp)).2
        clear hk2 hS2
        go_wp2_with fail
        refine callsR (fun W => Hid (Wk [b] wr W) ∧ Hid (St W B b all sa) ∧ Hid (Blk W wr.heap.size [.int .i64 a, .int .i64 0])) ⟨Lib.hid (HK2.out.setCell (.inr (Nat.le_refl _)) _), Lib.hid (H2.out.next (X := [wr.heap.size]) ((Wk.refl _ _).setCell (.inl (by simp)) _) (by simp; omega)), Lib.hid (HM2.out.set 0 (by simp) _)⟩ ?_
        rintro w3 ⟨HK3, H3, HM3⟩
        clear m0 m1
        refine (numberT B b all sa _ H3.out hlen).mono ?_
        rw [HC.out]
        rintro e w4 ⟨hk4, v4, rfl, hv4, hS4⟩
        unfold RInt at hv4
        subst hv4
        have HK4 := Lib.hid (HK3.out.trans hk4)
        have HM4 := Lib.hid (HM3.out.next hk4 (by simp; omega))
        have m0 : w4.cell? ⟨wr.heap.size, 0, none⟩ = some (.int .i64 a) := (HM4.out 0 (by simp)).1
        have m1 : w4.cell? ⟨wr.heap.size, 1, none⟩ = some (.int .i64 0) := (HM4.out 1 (by simp)).1
        have m2 : w4.frozen? ⟨wr.heap.size, 1, none⟩ = false := (HM4.out 1 (by simp)).2
        have H5 := Lib.hid (hS4.next (X := [wr.heap.size]) ((Wk.refl _ w4).setCell (p := ⟨wr.heap.size, 1, none⟩) (.inl (by simp)) (.int .i64 c)) (by simp; omega))
        have HK5 := Lib.hid (HK4.out.setCell (p := ⟨wr.heap.size, 1, none⟩) (.inr (Nat.le_refl _)) (.int .i64 c))
        have HV : Hid (VTy (w4.setCell ⟨wr.heap.size, 1, none⟩ (.int .i64 c)) (Nw wr.heap.size (w4.setCell ⟨wr.heap.size, 1, none⟩ (.int .i64 c)).heap.size) [.int .i64 a, .int .i64 c] ⟨a, c⟩) := ⟨rfl, oka, okc⟩
        have HO5 := Lib.hid (own_keep HOr.out HK5.out (by exact fun g hg e => by have := (HOr.out.lt g hg).1; omega))
        have hs4 := HK4.out.size
        clear hk4 hS4
        go_wp2_with (at_builtin; refine wpList_append_lies _ rfl (.tmp 28) (.tmp 30) 38 rfl w.heap.size 46 i0 (.agg #[.int .i64 0, .int .i64 0]) 2 16 Try.underlying38 hi hz0 hz1 hz2 rfl (by decide) _ acc.length xs (by simp [Act.eval, Act.put]) (HO5.out.alloc _) ⟨w4.heap.size, 0, none⟩ 1 1 [.int .i64 a, .int .i64 c] (by simp [Act.eval, Act.put]) rfl (by exact news_set _ _ _ _ (by simp [World.setCell])) (by simp [Value.oneCell']) (by decide) (by unfold maxLen; omega) (by omega) (by simp [World.setCell]; omega) _ rfl ?_; intro g2 cap2 w6 hown3 hgrow3 hat3 hlt3; have HA6 := Lib.hid (item_addedS (HKr.out.trans HK5.out) H5.out HO5.out HWr.out HK5.out hlt hsz (fun g hg => (HOr.out.lt g hg).2) HV.out sTy rfl hown3 hgrow3 hat3); clear hown3 hgrow3 hat3)
        obtain ⟨a1, a2, a3, a4⟩ := HA6.out
        have A1 := Lib.hid a1; have A2 := Lib.hid a2; have A3 := Lib.hid a3; have A4 := Lib.hid a4
        clear a1 a2 a3 a4 HA6 hlt3 m0 m1 m2
        have HL5 : Hid (acc.length + 1 = (acc ++ [(⟨a, c⟩ : Ty)]).length) := by show _ = _; simp
        go_wp2_with fail
        go_roundw
        case rel => exact ⟨k + 1, acc ++ [⟨a, c⟩], _, sc, by omega, by have := hbd.out rs rfl; omega, by go_num, Lib.hid (by have := hacc.out; simp; omega), A1, A2, A3, A4, HB2, HL2⟩
        case measure => simp [intOf]; omega
    · have HT := stop (.inl (by omega))
      clear stop
      go_wp2_with fail
      go_ret
      unfold RT
      rw [HT.out]
      exact ⟨HKr.out, _, rfl, fin.out, HSr.out⟩
end Wire
end Go.Proofs.Ytncmhenfgbcihaa

/- The reference's reader: a method. -/
namespace Go.Proofs.Ytncmhenfgbcihaa
open Go.RowKit
set_option linter.unusedSimpArgs false
set_option linter.unusedVariables false
namespace Wire
open Num Rd D Bytes HierW

/-- an element behind those that were read, whatever the mark -/
theorem item_addedG {α : Type} {V : World → (Nat → Prop) → List Value → α → Prop} {wr w2 w3 : World} {B b lo g2 cap2 size : Nat} {T : TypeId} {all : List UInt8} {s' : S} {v : Value} {xs cs : List Value} {acc : List α} {x : α} {o : Obj}
    (H2 : St w2 B b all s') (HO2 : w2.ownsRow lo T size v acc.length xs) (HW : Row V size wr (Rw lo wr v) xs acc) (HKc : Wk [b] wr w2) (hlt : b < lo) (hge : lo ≤ wr.heap.size) (hvr : ∀ g, v.ownBlock = some g → g < wr.heap.size)
    (HV : V w2 (Nw wr.heap.size w2.heap.size) cs x) (sV : Stays V) (hcs : cs.length = size)
    (hown : w3.ownsRow lo T size (.slice (some ⟨g2, 0, none⟩) (acc.length + 1) cap2) (acc.length + 1) (xs ++ cs)) (hgrow : (w2.alloc o).grownBy w3 v.ownBlock) (hat : v.ownBlock = some g2 ∨ g2 = (w2.alloc o).heap.size) :
    (∃ X, Wk X w2 w3 ∧ ∀ y ∈ X, lo ≤ y ∧ y < wr.heap.size) ∧ St w3 B b all s' ∧ w3.ownsRow lo T size (.slice (some ⟨g2, 0, none⟩) (acc.length + 1) cap2) (acc ++ [x]).length (xs ++ cs) ∧ Row V size w3 (Rw lo w3 (.slice (some ⟨g2, 0, none⟩) (acc.length + 1) cap2)) (xs ++ cs) (acc ++ [x]) := by
  have hs : (w2.alloc o).heap.size = w2.heap.size + 1 := by simp
  have h23 : w2.heap.size + 1 ≤ w3.heap.size := by rw [← hs]; exact hgrow.size
  have hr2 := HKc.size
  have hat' : v.ownBlock = some g2 ∨ g2 = w2.heap.size + 1 := by rw [hs] at hat; exact hat
  have hvlo : ∀ g, v.ownBlock = some g → lo ≤ g := fun g hg => (HO2.lt g hg).1
  have blk : ∀ k, k < w2.heap.size → v.ownBlock ≠ some k → w3.heap[k]? = w2.heap[k]? := fun k hk hn =>
    (hgrow.block k (by omega) (fun e => hn e.symm)).trans (heap_alloc_old w2 o hk)
  have HK23 : Wk (match v.ownBlock with | some g => [g] | none => []) w2 w3 := by
    refine ((Wk.refl _ w2).alloc o).trans (Wk.of_grown hgrow (fun k hk => ?_))
    rw [hk]; simp
  refine ⟨⟨_, HK23, fun y hy => ?_⟩, H2.next HK23 (fun y hy => ?_), by simpa using hown, Row.snoc (Row.stays sV (fun k hk => ?_) HW) hcs (sV _ _ _ _ _ _ (fun k hk => ?_) HV)⟩
  · cases hv : v.ownBlock with
    | none => rw [hv] at hy; simp at hy
    | some g => rw [hv] at hy; simp at hy; subst hy; exact ⟨hvlo _ hv, hvr _ hv⟩
  · cases hv : v.ownBlock with
    | none => rw [hv] at hy; simp at hy
    | some g => rw [hv] at hy; simp at hy; subst hy; have := hvlo _ hv; omega
  · obtain ⟨k1, k2, k3⟩ := hk
    refine ⟨⟨k1, by omega, ?_⟩, (blk k (by omega) k3).trans (HKc.block k k2 (by simp <;> omega))⟩
    simp only [Value.ownBlock]
    rcases hat' with e | e
    · rw [e] at k3; exact k3
    · intro e2; injection e2 with e2; omega
  · obtain ⟨k1, k2⟩ := hk
    have hvk : v.ownBlock ≠ some k := fun e => by have := hvr k e; omega
    refine ⟨⟨by omega, by omega, ?_⟩, blk k k2 hvk⟩
    simp only [Value.ownBlock]
    rcases hat' with e | e
    · rw [e] at hvk; exact hvk
    · intro e2; injection e2 with e2; omega
theorem own_slice {w : World} {base : Nat} {T : TypeId} {size n : Nat} {v : Value} {xs : List Value} (h : w.ownsRow base T size v n xs) : ∃ a m cap, v = .slice a m cap := by
  rcases h.2 with ⟨rfl, _⟩ | ⟨g, cap, cur, rfl, _⟩
  · exact ⟨_, _, _, rfl⟩
  · exact ⟨_, _, _, rfl⟩
theorem after_cell {w w' : World} {lo hi q o : Nat} {v : Value} (h : ∃ X, Wk X w w' ∧ ∀ y ∈ X, lo ≤ y ∧ y < hi) (hc : w.cell? ⟨q, o, none⟩ = some v) (hq : q < lo) : w'.cell? ⟨q, o, none⟩ = some v := by
  obtain ⟨X, hX, hy⟩ := h
  exact hX.cell hc (fun h => by have := (hy q h).1; omega)
theorem after_frz {w w' : World} {lo hi q o : Nat} (h : ∃ X, Wk X w w' ∧ ∀ y ∈ X, lo ≤ y ∧ y < hi) (hc : w.frozen? ⟨q, o, none⟩ = false ∧ q < w.heap.size) (hq : q < lo) : w'.frozen? ⟨q, o, none⟩ = false := by
  obtain ⟨X, hX, hy⟩ := h
  exact hX.frz hc.1 hc.2 (fun h => by have := (hy q h).1; omega)
theorem lens_rd (s : S) (m : Nat) (h : ∀ rs, s = some rs → rs.length ≤ m) : ∀ rs, (rdT s).2 = some rs → rs.length ≤ m := fun rs hr => by
  obtain ⟨r0, h1, h2⟩ := less_rd s rs hr
  have := h r0 h1; omega
theorem lens_many (s : S) (m : Nat) (h : ∀ rs, s = some rs → rs.length ≤ m) : ∀ rs, (manyT s).2 = some rs → rs.length ≤ m := fun rs hr => by
  unfold manyT at hr
  split at hr
  · cases hr
  · exact lens_rd s m h rs hr
theorem lens_st {w : World} {B b : Nat} {all : List UInt8} {s : S} (h : St w B b all s) (hl : all.length ≤ 4000000) : ∀ rs, s = some rs → rs.length ≤ 4000000 := fun rs hr => by
  obtain ⟨_, _, k, _, _, _, _, hk', hd, _⟩ := h
  rw [hd rs hr, List.length_drop]; omega

set_option maxRecDepth 100000 in
set_option maxHeartbeats 16000000 in
theorem methodT (B b : Nat) (all : List UInt8) (s : S) (w : World) (h : St w B b all s) (hlen : all.length ≤ 4000000) :
    Calls Try.prog 79 #[.pointer (some ⟨b, 0, none⟩)] w (RT (meT s) (RS VMt w.heap.size) B b all w) := by
  obtain ⟨ii, hii, hi0, hi1, hi2⟩ := info_parts info_In
  obtain ⟨ij, hij, hj0, hj1, hj2⟩ := info_parts info_Int
  obtain ⟨ih, hih, hh0, hh1, hh2⟩ := info_parts info_Hd
  have hR := Lib.hid h
  have hlt := h.lt
  clear h
  obtain ⟨⟨pl, t0⟩, RP⟩ : ∃ y, Hid (lstT tyT s = y) := ⟨_, rfl⟩
  obtain ⟨⟨x0, t1⟩, R0⟩ : ∃ y, Hid (rdT t0 = y) := ⟨_, rfl⟩
  obtain ⟨⟨x1, t2⟩, R1⟩ : ∃ y, Hid (rdT t1 = y) := ⟨_, rfl⟩
  obtain ⟨⟨x2, t3⟩, R2⟩ : ∃ y, Hid (rdT t2 = y) := ⟨_, rfl⟩
  obtain ⟨⟨x3, t4⟩, R3⟩ : ∃ y, Hid (rdT t3 = y) := ⟨_, rfl⟩
  obtain ⟨⟨x4, t5⟩, R4⟩ : ∃ y, Hid (rdT t4 = y) := ⟨_, rfl⟩
  obtain ⟨⟨n, t6⟩, RN⟩ : ∃ y, Hid (manyT t5 = y) := ⟨_, rfl⟩
  obtain ⟨⟨cl, t7⟩, RC⟩ : ∃ y, Hid (listT insT n.toNat t6 = y) := ⟨_, rfl⟩
  obtain ⟨⟨n2, t8⟩, RN2⟩ : ∃ y, Hid (manyT t7 = y) := ⟨_, rfl⟩
  obtain ⟨⟨hl, t9⟩, RH⟩ : ∃ y, Hid (listT hdT n2.toNat t8 = y) := ⟨_, rfl⟩
  have HT : Hid (meT s = (⟨pl, ⟨x0, x1⟩, x2, x3, x4, cl, hl⟩, t9)) := by
    have hC : lstT insT t5 = (cl, t7) := by unfold lstT; rw [RN.out]; exact RC.out
    have hH : lstT hdT t7 = (hl, t9) := by unfold lstT; rw [RN2.out]; exact RH.out
    show _ = _
    unfold meT
    simp only [RP.out, tyT, R0.out, R1.out, R2.out, R3.out, R4.out, hC, hH]
  have ok0 : Hid (Ok x0) := by have := rdT_ok t0; rw [R0.out] at this; exact this
  have ok1 : Hid (Ok x1) := by have := rdT_ok t1; rw [R1.out] at this; exact this
  have ok2 : Hid (Ok x2) := by have := rdT_ok t2; rw [R2.out] at this; exact this
  have ok3 : Hid (Ok x3) := by have := rdT_ok t3; rw [R3.out] at this; exact this
  have ok4 : Hid (Ok x4) := by have := rdT_ok t4; rw [R4.out] at this; exact this
  have okn : Ok n := by have := manyT_ok t5; rw [RN.out] at this; exact this
  have okn2 : Ok n2 := by have := manyT_ok t7; rw [RN2.out] at this; exact this
  unfold Ok at okn okn2
  go_enter Try.func79, Try.ntmps79
  go_wp2_with fail
  refine callsR (fun W => Hid (Wk [b] w W) ∧ Hid (St W B b all s) ∧ Hid (Blk W w.heap.size [.slice none 0 0, .int .i64 0, .int .i64 0, .int .i64 0, .int .i64 0, .int .i64 0, .slice none 0 0, .slice none 0 0]) ∧ Hid (Blk W (w.heap.size + 1) [.slice none 0 0, .int .i64 0, .int .i64 0, .int .i64 0, .int .i64 0, .int .i64 0, .slice none 0 0, .slice none 0 0]) ∧ W.heap.size = w.heap.size + 2) ⟨Lib.hid (((Wk.refl _ _).alloc _).alloc _), Lib.hid ((hR.out.alloc _).alloc _), ?_, ?_, by simp⟩ ?_
  · show Blk _ _ _
    intro j hj
    match j, hj with
    | 0, _ => exact ⟨by go_simp; try rfl, by go_simp⟩
    | 1, _ => exact ⟨by go_simp; try rfl, by go_simp⟩
    | 2, _ => exact ⟨by go_simp; try rfl, by go_simp⟩
    | 3, _ => exact ⟨by go_simp; try rfl, by go_simp⟩
    | 4, _ => exact ⟨by go_simp; try rfl, by go_simp⟩
    | 5, _ => exact ⟨by go_simp; try rfl, by go_simp⟩
    | 6, _ => exact ⟨by go_simp; try rfl, by go_simp⟩
    | 7, _ => exact ⟨by go_simp; try rfl, by go_simp⟩
  · show Blk _ _ _
    intro j hj
    match j, hj with
    | 0, _ => exact ⟨by go_simp; try rfl, by go_simp⟩
    | 1, _ => exact ⟨by go_simp; try rfl, by go_simp⟩
    | 2, _ => exact ⟨by go_simp; try rfl, by go_simp⟩
    | 3, _ => exact ⟨by go_simp; try rfl, by go_simp⟩
    | 4, _ => exact ⟨by go_simp; try rfl, by go_simp⟩
    | 5, _ => exact ⟨by go_simp; try rfl, by go_simp⟩
    | 6, _ => exact ⟨by go_simp; try rfl, by go_simp⟩
    | 7, _ => exact ⟨by go_simp; try rfl, by go_simp⟩
  rintro w0 ⟨HK0, HS0, HZ0, HM0, hw0⟩
  refine (typesT B b all s _ HS0.out hlen).mono ?_
  rw [RP.out]
  rintro e w1 ⟨hk, v, rfl, hsl, hS1⟩
  rw [show w0.heap.size = w.heap.size + 2 from hw0] at hsl
  have HP1 := Lib.hid hsl
  obtain ⟨pa, pcap, rfl, _, _, _⟩ := hsl
  have HK1 := Lib.hid (HK0.out.trans hk)
  have HZ1 := Lib.hid (HZ0.out.next hk (by simp <;> omega))
  have HM1 := Lib.hid (HM0.out.next hk (by simp <;> omega))
  have HS1 := Lib.hid hS1
  have hw1 : w.heap.size + 2 ≤ w1.heap.size := by have := hk.size; omega
  have m0 : w1.cell? ⟨w.heap.size + 1, 0, none⟩ = some (.slice none 0 0) := (HM1.out 0 (by simp)).1
  have m1 : w1.frozen? ⟨w.heap.size + 1, 0, none⟩ = false := (HM1.out 0 (by simp)).2
  clear hk hS1 hw0
  go_wp2_with fail
  refine callsR (fun W => Hid (Wk [b] w W) ∧ Hid (St W B b all t0) ∧ Hid (Blk W w.heap.size [.slice none 0 0, .int .i64 0, .int .i64 0, .int .i64 0, .int .i64 0, .int .i64 0, .slice none 0 0, .slice none 0 0]) ∧ Hid (Blk W (w.heap.size + 1) [.slice pa pl.length pcap, .int .i64 0, .int .i64 0, .int .i64 0, .int .i64 0, .int .i64 0, .slice none 0 0, .slice none 0 0]) ∧ Hid (SlV VTy 2 W (Nw (w.heap.size + 2) W.heap.size) (.slice pa pl.length pcap) pl) ∧ w.heap.size + 2 ≤ W.heap.size) ⟨Lib.hid (HK1.out.setCell (.inr (by show _ ≤ w.heap.size + 1; omega)) _), Lib.hid (HS1.out.next (X := [w.heap.size + 1]) ((Wk.refl _ _).setCell (.inl (by simp)) _) (by simp <;> omega)), Lib.hid (HZ1.out.far (by omega) _), Lib.hid (HM1.out.set 0 (by simp) _), ?_, by simp [World.setCell]; omega⟩ ?_
  · have hhs : (w1.setCell ⟨w.heap.size + 1, 0, none⟩ (.slice pa pl.length pcap)).heap.size = w1.heap.size := by simp [World.setCell]
    exact HP1.out.stays sTy (fun k hk => ⟨⟨hk.1, by have := hk.2; omega⟩, Below.heap_setCell _ _ _ _ (by show k ≠ w.heap.size + 1; have := hk.1; omega)⟩)
  rintro bs ⟨HKb, HSb, HZb, HBb, HPb, hbs⟩
  clear m0 m1
  have HKbs : Hid (Wk [b, w.heap.size + 1] bs bs) := Wk.refl _ _
  have HSbs := HSb; have HBbs := HBb
  refine (numberT B b all t0 _ HSbs.out hlen).mono ?_
  rw [R0.out]
  rintro e p1 ⟨hk, v2, rfl, hv2, hS2⟩
  unfold RInt at hv2
  subst hv2
  have HKp1 := Lib.hid (HKbs.out.trans (hk.mono (by simp)))
  have HBp1 := Lib.hid (HBbs.out.next hk (by simp <;> omega))
  have HSp1 := Lib.hid hS2
  have m0 : p1.cell? ⟨(w.heap.size + 1), 1, none⟩ = some (.int .i64 0) := (HBp1.out 1 (by simp)).1
  have m1 : p1.frozen? ⟨(w.heap.size + 1), 1, none⟩ = false := (HBp1.out 1 (by simp)).2
  clear hk hS2
  go_wp2_with fail
  refine callsR (fun W => Hid (Wk [b, w.heap.size + 1] bs W) ∧ Hid (St W B b all t1) ∧ Hid (Blk W (w.heap.size + 1) [.slice pa pl.length pcap, .int .i64 x0, .int .i64 0, .int .i64 0, .int .i64 0, .int .i64 0, .slice none 0 0, .slice none 0 0])) ⟨Lib.hid (HKp1.out.setCell (.inl (by simp)) _), Lib.hid (HSp1.out.next (X := [(w.heap.size + 1)]) ((Wk.refl _ _).setCell (.inl (by simp)) _) (by simp <;> omega)), Lib.hid (HBp1.out.set 1 (by simp) _)⟩ ?_
  rintro q2 ⟨HKq2, HSq2, HBq2⟩
  clear m0 m1
  refine (numberT B b all t1 _ HSq2.out hlen).mono ?_
  rw [R1.out]
  rintro e p3 ⟨hk, v2, rfl, hv2, hS2⟩
  unfold RInt at hv2
  subst hv2
  have HKp3 := Lib.hid (HKq2.out.trans (hk.mono (by simp)))
  have HBp3 := Lib.hid (HBq2.out.next hk (by simp <;> omega))
  have HSp3 := Lib.hid hS2
  have m0 : p3.cell? ⟨(w.heap.size + 1), 2, none⟩ = some (.int .i64 0) := (HBp3.out 2 (by simp)).1
  have m1 : p3.frozen? ⟨(w.heap.size + 1), 2, none⟩ = false := (HBp3.out 2 (by simp)).2
  clear hk hS2
  go_wp2_with fail
  refine callsR (fun W => Hid (Wk [b, w.heap.size + 1] bs W) ∧ Hid (St W B b all t2) ∧ Hid (Blk W (w.heap.size + 1) [.slice pa pl.length pcap, .int .i64 x0, .int .i64 x1, .int .i64 0, .int .i64 0, .int .i64 0, .slice none 0 0, .slice none 0 0])) ⟨Lib.hid (HKp3.out.setCell (.inl (by simp)) _), Lib.hid (HSp3.out.next (X := [(w.heap.size + 1)]) ((Wk.refl _ _).setCell (.inl (by simp)) _) (by simp <;> omega)), Lib.hid (HBp3.out.set 2 (by simp) _)⟩ ?_
  rintro q4 ⟨HKq4, HSq4, HBq4⟩
  clear m0 m1
  refine (numberT B b all t2 _ HSq4.out hlen).mono ?_
  rw [R2.out]
  rintro e p5 ⟨hk, v2, rfl, hv2, hS2⟩
  unfold RInt at hv2
  subst hv2
  have HKp5 := Lib.hid (HKq4.out.trans (hk.mono (by simp)))
  have HBp5 := Lib.hid (HBq4.out.next hk (by simp <;> omega))
  have HSp5 := Lib.hid hS2
  have m0 : p5.cell? ⟨(w.heap.size + 1), 3, none⟩ = some (.int .i64 0) := (HBp5.out 3 (by simp)).1
  have m1 : p5.frozen? ⟨(w.heap.size + 1), 3, none⟩ = false := (HBp5.out 3 (by simp)).2
  clear hk hS2
  go_wp2_with fail
  refine callsR (fun W => Hid (Wk [b, w.heap.size + 1] bs W) ∧ Hid (St W B b all t3) ∧ Hid (Blk W (w.heap.size + 1) [.slice pa pl.length pcap, .int .i64 x0, .int .i64 x1, .int .i64 x2, .int .i64 0, .int .i64 0, .slice none 0 0, .slice none 0 0])) ⟨Lib.hid (HKp5.out.setCell (.inl (by simp)) _), Lib.hid (HSp5.out.next (X := [(w.heap.size + 1)]) ((Wk.refl _ _).setCell (.inl (by simp)) _) (by simp <;> omega)), Lib.hid (HBp5.out.set 3 (by simp) _)⟩ ?_
  rintro q6 ⟨HKq6, HSq6, HBq6⟩
  clear m0 m1
  refine (numberT B b all t3 _ HSq6.out hlen).mono ?_
  rw [R3.out]
  rintro e p7 ⟨hk, v2, rfl, hv2, hS2⟩
  unfold RInt at hv2
  subst hv2
  have HKp7 := Lib.hid (HKq6.out.trans (hk.mono (by simp)))
  have HBp7 := Lib.hid (HBq6.out.next hk (by simp <;> omega))
  have HSp7 := Lib.hid hS2
  have m0 : p7.cell? ⟨(w.heap.size + 1), 4, none⟩ = some (.int .i64 0) := (HBp7.out 4 (by simp)).1
  have m1 : p7.frozen? ⟨(w.heap.size + 1), 4, none⟩ = false := (HBp7.out 4 (by simp)).2
  clear hk hS2
  go_wp2_with fail
  refine callsR (fun W => Hid (Wk [b, w.heap.size + 1] bs W) ∧ Hid (St W B b all t4) ∧ Hid (Blk W (w.heap.size + 1) [.slice pa pl.length pcap, .int .i64 x0, .int .i64 x1, .int .i64 x2, .int .i64 x3, .int .i64 0, .slice none 0 0, .slice none 0 0])) ⟨Lib.hid (HKp7.out.setCell (.inl (by simp)) _), Lib.hid (HSp7.out.next (X := [(w.heap.size + 1)]) ((Wk.refl _ _).setCell (.inl (by simp)) _) (by simp <;> omega)), Lib.hid (HBp7.out.set 4 (by simp) _)⟩ ?_
  rintro q8 ⟨HKq8, HSq8, HBq8⟩
  clear m0 m1
  refine (numberT B b all t4 _ HSq8.out hlen).mono ?_
  rw [R4.out]
  rintro e p9 ⟨hk, v2, rfl, hv2, hS2⟩
  unfold RInt at hv2
  subst hv2
  have HKp9 := Lib.hid (HKq8.out.trans (hk.mono (by simp)))
  have HBp9 := Lib.hid (HBq8.out.next hk (by simp <;> omega))
  have HSp9 := Lib.hid hS2
  have m0 : p9.cell? ⟨(w.heap.size + 1), 5, none⟩ = some (.int .i64 0) := (HBp9.out 5 (by simp)).1
  have m1 : p9.frozen? ⟨(w.heap.size + 1), 5, none⟩ = false := (HBp9.out 5 (by simp)).2
  clear hk hS2
  go_wp2_with fail
  refine callsR (fun W => Hid (Wk [b, w.heap.size + 1] bs W) ∧ Hid (St W B b all t5) ∧ Hid (Blk W (w.heap.size + 1) [.slice pa pl.length pcap, .int .i64 x0, .int .i64 x1, .int .i64 x2, .int .i64 x3, .int .i64 x4, .slice none 0 0, .slice none 0 0])) ⟨Lib.hid (HKp9.out.setCell (.inl (by simp)) _), Lib.hid (HSp9.out.next (X := [(w.heap.size + 1)]) ((Wk.refl _ _).setCell (.inl (by simp)) _) (by simp <;> omega)), Lib.hid (HBp9.out.set 5 (by simp) _)⟩ ?_
  rintro q10 ⟨HKq10, HSq10, HBq10⟩
  clear m0 m1
  refine (manyTw B b all t5 _ HSq10.out hlen).mono ?_
  rw [RN.out]
  rintro e w2 ⟨hk, v2, rfl, hv2, hS2⟩
  unfold RInt at hv2
  subst hv2
  have HK2 := Lib.hid (HKq10.out.trans (hk.mono (by simp)))
  have HM2 := Lib.hid (HBq10.out.next hk (by simp <;> omega))
  have HS2 := Lib.hid hS2
  have hl6 := Lib.hid (lens_st hS2 hlen)
  have HL0 : Hid ((cl, t7) = ([] ++ (listT insT (n.toNat - 0) t6).1, (listT insT (n.toNat - 0) t6).2)) := by
    show _ = _
    rw [Nat.sub_zero, RC.out]; rfl
  clear hk hS2
  go_wp2_with fail
  go_loopw [5] (fun i wr => ∃ (k : Nat) (acc : List Ins) (xs : List Value) (s' : S) (v6 : Value), ((k : Int) ≤ n ∨ k = 0) ∧ k ≤ 500001 ∧ i = .int .i64 k ∧ Hid (acc.length = k) ∧ Hid (Wk [b, w.heap.size + 1] bs wr) ∧ Hid (St wr B b all s') ∧ Hid (Blk wr (w.heap.size + 1) [.slice pa pl.length pcap, .int .i64 x0, .int .i64 x1, .int .i64 x2, .int .i64 x3, .int .i64 x4, v6, .slice none 0 0]) ∧ Hid (wr.ownsRow bs.heap.size 43 6 v6 acc.length xs) ∧ Hid (Row VIn 6 wr (Rw bs.heap.size wr v6) xs acc) ∧ Hid (∀ rs, s' = some rs → rs.length + 8 * k ≤ 4000000) ∧ Hid ((cl, t7) = (acc ++ (listT insT (n.toNat - k) s').1, (listT insT (n.toNat - k) s').2))) (fun i _ => n.toNat - (intOf i).toNat)
  case atStart => exact ⟨0, [], [], t6, _, by omega, by omega, rfl, rfl, HK2, HS2, HM2, World.ownsRow_nil _ _ _ _, Row.nil _ _ _ _, Lib.hid (fun rs h => by have := hl6.out rs h; omega), HL0⟩
  case round =>
  obtain ⟨k, acc, xs, s', v6, hkn, hk5, rfl, hacc, HKr, HSr, HMr, HOr, HWr, hbd, HLr⟩ := hrel
  have hsz := HKr.out.size
  have hbl := HSr.out.lt
  have hfl := flag HSr.out
  have hal : acc.length ≤ 500001 := by have := hacc.out; omega
  have stop : (n.toNat - k = 0 ∨ s' = none) → Hid ((cl, t7) = (acc, s')) := fun h => listT_stop HLr.out h
  obtain ⟨wo, rfl⟩ : ∃ wo : World, wo = wr := ⟨_, rfl⟩
  by_cases hgo : (k : Int) < n ∧ s' ≠ none
  · obtain ⟨hlt2, hne⟩ := hgo
    obtain ⟨rs, rfl⟩ : ∃ rs, s' = some rs := by
      cases s' with
      | none => exact absurd rfl hne
      | some rs => exact ⟨rs, rfl⟩
    simp only [Option.isNone_some] at hfl
    have hrl := hbd.out rs rfl
    have hnk : n.toNat - k = (n.toNat - (k + 1)) + 1 := by omega
    obtain ⟨⟨y0, u1⟩, E0⟩ : ∃ y, Hid (rdT (some rs) = y) := ⟨_, rfl⟩
    obtain ⟨⟨y1, u2⟩, E1⟩ : ∃ y, Hid (rdT u1 = y) := ⟨_, rfl⟩
    obtain ⟨⟨y2, u3⟩, E2⟩ : ∃ y, Hid (rdT u2 = y) := ⟨_, rfl⟩
    obtain ⟨⟨y3, u4⟩, E3⟩ : ∃ y, Hid (rdT u3 = y) := ⟨_, rfl⟩
    obtain ⟨⟨y4, u5⟩, E4⟩ : ∃ y, Hid (rdT u4 = y) := ⟨_, rfl⟩
    obtain ⟨⟨ni, u6⟩, E5⟩ : ∃ y, Hid (manyT u5 = y) := ⟨_, rfl⟩
    obtain ⟨⟨al, u7⟩, E6⟩ : ∃ y, Hid (listT rdT ni.toNat u6 = y) := ⟨_, rfl⟩
    have HI : Hid (insT (some rs) = (⟨y0, y1, y2, y3, y4, al⟩, u7)) := by
      have hA : lstT rdT u5 = (al, u7) := by unfold lstT; rw [E5.out]; exact E6.out
      show _ = _
      unfold insT
      simp only [E0.out, E1.out, E2.out, E3.out, E4.out, hA]
    have OK5 : Hid (Ok y0 ∧ Ok y1 ∧ Ok y2 ∧ Ok y3 ∧ Ok y4) := by
      have a0 := rdT_ok (some rs); rw [E0.out] at a0
      have a1 := rdT_ok u1; rw [E1.out] at a1
      have a2 := rdT_ok u2; rw [E2.out] at a2
      have a3 := rdT_ok u3; rw [E3.out] at a3
      have a4 := rdT_ok u4; rw [E4.out] at a4
      exact ⟨a0, a1, a2, a3, a4⟩
    have okni : Ok ni := by have := manyT_ok u5; rw [E5.out] at this; exact this
    unfold Ok at okni
    have HL2 : Hid ((cl, t7) = ((acc ++ [(⟨y0, y1, y2, y3, y4, al⟩ : Ins)]) ++ (listT insT (n.toNat - (k + 1)) u7).1, (listT insT (n.toNat - (k + 1)) u7).2)) := by
      have h0 := HLr.out
      rw [hnk] at h0
      have := listT_step (t := insT) (m := n.toNat - (k + 1)) h0
      rw [HI.out] at this; exact this
    have HB2 : Hid (∀ r, u7 = some r → r.length + 8 * (k + 1) ≤ 4000000) := fun r h => by
      have := eatsT_of tot_ins ins_wrote (fun x => by simp only [insB, List.length_append, wide_len] <;> omega) rs r (by rw [HI.out]; exact h); omega
    clear stop hrl hnk hne
    go_wp2_with fail
    refine callsR (fun W => Hid (Wk [b] wo W) ∧ Hid (St W B b all (some rs)) ∧ Hid (Blk W wo.heap.size [.int .i64 0, .int .i64 0, .int .i64 0, .int .i64 0, .int .i64 0, .slice none 0 0])) ⟨Lib.hid ((Wk.refl _ _).alloc _), Lib.hid (HSr.out.alloc _), ?_⟩ ?_
    · show Blk _ _ _
      intro j hj
      match j, hj with
      | 0, _ => exact ⟨by go_simp; try rfl, by go_simp⟩
      | 1, _ => exact ⟨by go_simp; try rfl, by go_simp⟩
      | 2, _ => exact ⟨by go_simp; try rfl, by go_simp⟩
      | 3, _ => exact ⟨by go_simp; try rfl, by go_simp⟩
      | 4, _ => exact ⟨by go_simp; try rfl, by go_simp⟩
      | 5, _ => exact ⟨by go_simp; try rfl, by go_simp⟩
    rintro d0 ⟨HKd0, HSd0, HBd0⟩
    refine (numberT B b all (some rs) _ HSd0.out hlen).mono ?_
    rw [E0.out]
    rintro e p11 ⟨hk, v2, rfl, hv2, hS2⟩
    unfold RInt at hv2
    subst hv2
    have HKp11 := Lib.hid (HKd0.out.trans hk)
    have HBp11 := Lib.hid (HBd0.out.next hk (by simp <;> omega))
    have HSp11 := Lib.hid hS2
    have m0 : p11.cell? ⟨wo.heap.size, 0, none⟩ = some (.int .i64 0) := (HBp11.out 0 (by simp)).1
    have m1 : p11.frozen? ⟨wo.heap.size, 0, none⟩ = false := (HBp11.out 0 (by simp)).2
    clear hk hS2
    go_wp2_with fail
    refine callsR (fun W => Hid (Wk [b] wo W) ∧ Hid (St W B b all u1) ∧ Hid (Blk W wo.heap.size [.int .i64 y0, .int .i64 0, .int .i64 0, .int .i64 0, .int .i64 0, .slice none 0 0])) ⟨Lib.hid (HKp11.out.setCell (.inr (Nat.le_refl _)) _), Lib.hid (HSp11.out.next (X := [wo.heap.size]) ((Wk.refl _ _).setCell (.inl (by simp)) _) (by simp <;> omega)), Lib.hid (HBp11.out.set 0 (by simp) _)⟩ ?_
    rintro q12 ⟨HKq12, HSq12, HBq12⟩
    clear m0 m1
    refine (numberT B b all u1 _ HSq12.out hlen).mono ?_
    rw [E1.out]
    rintro e p13 ⟨hk, v2, rfl, hv2, hS2⟩
    unfold RInt at hv2
    subst hv2
    have HKp13 := Lib.hid (HKq12.out.trans hk)
    have HBp13 := Lib.hid (HBq12.out.next hk (by simp <;> omega))
    have HSp13 := Lib.hid hS2
    have m0 : p13.cell? ⟨wo.heap.size, 1, none⟩ = some (.int .i64 0) := (HBp13.out 1 (by simp)).1
    have m1 : p13.frozen? ⟨wo.heap.size, 1, none⟩ = false := (HBp13.out 1 (by simp)).2
    clear hk hS2
    go_wp2_with fail
    refine callsR (fun W => Hid (Wk [b] wo W) ∧ Hid (St W B b all u2) ∧ Hid (Blk W wo.heap.size [.int .i64 y0, .int .i64 y1, .int .i64 0, .int .i64 0, .int .i64 0, .slice none 0 0])) ⟨Lib.hid (HKp13.out.setCell (.inr (Nat.le_refl _)) _), Lib.hid (HSp13.out.next (X := [wo.heap.size]) ((Wk.refl _ _).setCell (.inl (by simp)) _) (by simp <;> omega)), Lib.hid (HBp13.out.set 1 (by simp) _)⟩ ?_
    rintro q14 ⟨HKq14, HSq14, HBq14⟩
    clear m0 m1
    refine (numberT B b all u2 _ HSq14.out hlen).mono ?_
    rw [E2.out]
    rintro e p15 ⟨hk, v2, rfl, hv2, hS2⟩
    unfold RInt at hv2
    subst hv2
    have HKp15 := Lib.hid (HKq14.out.trans hk)
    have HBp15 := Lib.hid (HBq14.out.next hk (by simp <;> omega))
    have HSp15 := Lib.hid hS2
    have m0 : p15.cell? ⟨wo.heap.size, 2, none⟩ = some (.int .i64 0) := (HBp15.out 2 (by simp)).1
    have m1 : p15.frozen? ⟨wo.heap.size, 2, none⟩ = false := (HBp15.out 2 (by simp)).2
    clear hk hS2
    go_wp2_with fail
    refine callsR (fun W => Hid (Wk [b] wo W) ∧ Hid (St W B b all u3) ∧ Hid (Blk W wo.heap.size [.int .i64 y0, .int .i64 y1, .int .i64 y2, .int .i64 0, .int .i64 0, .slice none 0 0])) ⟨Lib.hid (HKp15.out.setCell (.inr (Nat.le_refl _)) _), Lib.hid (HSp15.out.next (X := [wo.heap.size]) ((Wk.refl _ _).setCell (.inl (by simp)) _) (by simp <;> omega)), Lib.hid (HBp15.out.set 2 (by simp) _)⟩ ?_
    rintro q16 ⟨HKq16, HSq16, HBq16⟩
    clear m0 m1
    refine (numberT B b all u3 _ HSq16.out hlen).mono ?_
    rw [E3.out]
    rintro e p17 ⟨hk, v2, rfl, hv2, hS2⟩
    unfold RInt at hv2
    subst hv2
    have HKp17 := Lib.hid (HKq16.out.trans hk)
    have HBp17 := Lib.hid (HBq16.out.next hk (by simp <;> omega))
    have HSp17 := Lib.hid hS2
    have m0 : p17.cell? ⟨wo.heap.size, 3, none⟩ = some (.int .i64 0) := (HBp17.out 3 (by simp)).1
    have m1 : p17.frozen? ⟨wo.heap.size, 3, none⟩ = false := (HBp17.out 3 (by simp)).2
    clear hk hS2
    go_wp2_with fail
    refine callsR (fun W => Hid (Wk [b] wo W) ∧ Hid (St W B b all u4) ∧ Hid (Blk W wo.heap.size [.int .i64 y0, .int .i64 y1, .int .i64 y2, .int .i64 y3, .int .i64 0, .slice none 0 0])) ⟨Lib.hid (HKp17.out.setCell (.inr (Nat.le_refl _)) _), Lib.hid (HSp17.out.next (X := [wo.heap.size]) ((Wk.refl _ _).setCell (.inl (by simp)) _) (by simp <;> omega)), Lib.hid (HBp17.out.set 3 (by simp) _)⟩ ?_
    rintro q18 ⟨HKq18, HSq18, HBq18⟩
    clear m0 m1
    refine (wideT B b all u4 _ HSq18.out hlen).mono ?_
    rw [E4.out]
    rintro e p19 ⟨hk, v2, rfl, hv2, hS2⟩
    unfold RInt at hv2
    subst hv2
    have HKp19 := Lib.hid (HKq18.out.trans hk)
    have HBp19 := Lib.hid (HBq18.out.next hk (by simp <;> omega))
    have HSp19 := Lib.hid hS2
    have m0 : p19.cell? ⟨wo.heap.size, 4, none⟩ = some (.int .i64 0) := (HBp19.out 4 (by simp)).1
    have m1 : p19.frozen? ⟨wo.heap.size, 4, none⟩ = false := (HBp19.out 4 (by simp)).2
    clear hk hS2
    go_wp2_with fail
    refine callsR (fun W => Hid (Wk [b] wo W) ∧ Hid (St W B b all u5) ∧ Hid (Blk W wo.heap.size [.int .i64 y0, .int .i64 y1, .int .i64 y2, .int .i64 y3, .int .i64 y4, .slice none 0 0])) ⟨Lib.hid (HKp19.out.setCell (.inr (Nat.le_refl _)) _), Lib.hid (HSp19.out.next (X := [wo.heap.size]) ((Wk.refl _ _).setCell (.inl (by simp)) _) (by simp <;> omega)), Lib.hid (HBp19.out.set 4 (by simp) _)⟩ ?_
    rintro q20 ⟨HKq20, HSq20, HBq20⟩
    clear m0 m1
    refine (manyTw B b all u5 _ HSq20.out hlen).mono ?_
    rw [E5.out]
    rintro e w4 ⟨hk, v2, rfl, hv2, hS2⟩
    unfold RInt at hv2
    subst hv2
    have HK4 := Lib.hid (HKq20.out.trans hk)
    have HB4 := Lib.hid (HBq20.out.next hk (by simp <;> omega))
    have HS4 := Lib.hid hS2
    have hl4 := Lib.hid (lens_st hS2 hlen)
    have HE0 : Hid ((al, u7) = ([] ++ (listT rdT (ni.toNat - 0) u6).1, (listT rdT (ni.toNat - 0) u6).2)) := by
      show _ = _
      rw [Nat.sub_zero, E6.out]; rfl
    clear hk hS2
    go_wp2_with fail
    go_loopw [8] (fun i wr => ∃ (k2 : Nat) (acc2 : List Int) (xs2 : List Value) (s2 : S) (v5 : Value), ((k2 : Int) ≤ ni ∨ k2 = 0) ∧ k2 ≤ 500001 ∧ i = .int .i64 k2 ∧ Hid (acc2.length = k2) ∧ Hid (Wk [b] wo wr) ∧ Hid (St wr B b all s2) ∧ Hid (Blk wr wo.heap.size [.int .i64 y0, .int .i64 y1, .int .i64 y2, .int .i64 y3, .int .i64 y4, v5]) ∧ Hid (wr.ownsRow (wo.heap.size + 1) 3 1 v5 acc2.length xs2) ∧ Hid (Row VInt 1 wr (Rw (wo.heap.size + 1) wr v5) xs2 acc2) ∧ Hid (∀ rs, s2 = some rs → rs.length + 8 * k2 ≤ 4000000) ∧ Hid ((al, u7) = (acc2 ++ (listT rdT (ni.toNat - k2) s2).1, (listT rdT (ni.toNat - k2) s2).2))) (fun i _ => ni.toNat - (intOf i).toNat)
    case atStart => exact ⟨0, [], [], u6, _, by omega, by omega, rfl, rfl, HK4, HS4, HB4, World.ownsRow_nil _ _ _ _, Row.nil _ _ _ _, Lib.hid (fun rs h => by have := hl4.out rs h; omega), HE0⟩
    case round =>
    obtain ⟨k2, acc2, xs2, s2, v5, hk2n, hk25, rfl, hacc2, HKi, HSi, HBi, HOi, HWi, hbd2, HLi⟩ := hrel
    have hsi := HKi.out.size
    have hbli := HSi.out.lt
    have hqi : wo.heap.size < wr.heap.size := lt_cell' (HBi.out 0 (by simp)).1
    have hfli := flag HSi.out
    have hal2 : acc2.length ≤ 500001 := by have := hacc2.out; omega
    have stop2 : (ni.toNat - k2 = 0 ∨ s2 = none) → Hid ((al, u7) = (acc2, s2)) := fun h => listT_stop HLi.out h
    by_cases hgo2 : (k2 : Int) < ni ∧ s2 ≠ none
    · obtain ⟨hlt3, hne2⟩ := hgo2
      obtain ⟨rs2, rfl⟩ : ∃ rs2, s2 = some rs2 := by
        cases s2 with
        | none => exact absurd rfl hne2
        | some rs2 => exact ⟨rs2, rfl⟩
      simp only [Option.isNone_some] at hfli
      have hrl := hbd2.out rs2 rfl
      have hnk : ni.toNat - k2 = (ni.toNat - (k2 + 1)) + 1 := by omega
      obtain ⟨⟨z, u8⟩, EZ⟩ : ∃ y, Hid (rdT (some rs2) = y) := ⟨_, rfl⟩
      have okz : Ok z := by have := rdT_ok (some rs2); rw [EZ.out] at this; exact this
      have HL3 : Hid ((al, u7) = ((acc2 ++ [z]) ++ (listT rdT (ni.toNat - (k2 + 1)) u8).1, (listT rdT (ni.toNat - (k2 + 1)) u8).2)) := by
        have h0 := HLi.out
        rw [hnk] at h0
        have := listT_step (t := rdT) (m := ni.toNat - (k2 + 1)) h0
        rw [EZ.out] at this; exact this
      have HB3 : Hid (∀ r, u8 = some r → r.length + 8 * (k2 + 1) ≤ 4000000) := fun r h => by
        have := eatsT_of tot_rd rd_wrote (fun x => by rw [wide_len]; omega) rs2 r (by rw [EZ.out]; exact h); omega
      clear stop2 hrl hnk hne2
      go_wp2_with fail
      refine (numberT B b all (some rs2) _ HSi.out hlen).mono ?_
      rw [EZ.out]
      rintro e w5 ⟨hk, v2, rfl, hv2, hS2⟩
      unfold RInt at hv2
      subst hv2
      have HKj := Lib.hid hk
      have HB5 := Lib.hid (HBi.out.next hk (by simp <;> omega))
      have HS5 := Lib.hid hS2
      have HO5 := Lib.hid (own_keep HOi.out hk (by exact fun g hg e => by have := (HOi.out.lt g hg).1; omega))
      have HV5 : Hid (VInt w5 (Nw wr.heap.size w5.heap.size) [.int .i64 z] z) := ⟨rfl, okz⟩
      have h5s := hk.size
      have c5 : w5.cell? ⟨wo.heap.size, 5, none⟩ = some v5 := (HB5.out 5 (by simp)).1
      clear hk hS2
      go_wp2_with (at_builtin; refine wpList_append_lies _ rfl (.tmp 81) (.tmp 83) 41 rfl (wo.heap.size + 1) 3 ij (.int .i64 0) 1 8 Try.underlying41 hij hj0 hj1 hj2 rfl (by decide) _ _ _ (by simp [Act.eval, Act.put]) (HO5.out.alloc _) ⟨w5.heap.size, 0, none⟩ 1 1 [.int .i64 z] (by simp [Act.eval, Act.put]) rfl (by exact news_set _ _ _ _ (by simp [World.setCell])) (by simp [Value.oneCell']) (by decide) (by unfold maxLen; omega) (by omega) (by simp [World.setCell]; omega) _ rfl ?_; intro g2 cap2 w9 hown3 hgrow3 hat3 hlt3; have HA := Lib.hid (item_addedG HS5.out HO5.out HWi.out HKj.out (by omega) (by omega) (fun g hg => (HOi.out.lt g hg).2) HV5.out sInt rfl hown3 hgrow3 hat3); have hc9 := after_cell HA.out.1 ((HB5.out 5 (by simp)).1) (by omega); have hf9 := after_frz HA.out.1 (⟨(HB5.out 5 (by simp)).2, by omega⟩) (by omega); clear hown3 hgrow3 hat3)
      obtain ⟨⟨X, hX, hXy⟩, a2, a3, a4⟩ := HA.out
      have HB9 := Lib.hid (HB5.out.next hX (by intro h; have := (hXy _ h).1; omega))
      have HX := Lib.hid hX; have HXY := Lib.hid hXy
      have A2 := Lib.hid a2; have A3 := Lib.hid a3; have A4 := Lib.hid a4
      have h9s := hX.size
      clear a2 a3 a4 HA hlt3 hX hXy c5
      go_wp2_with fail
      go_roundw
      case rel =>
        have hset : Wk [wo.heap.size] w9 (w9.setCell ⟨wo.heap.size, 5, none⟩ (.slice (some ⟨g2, 0, none⟩) (acc2.length + 1) cap2)) := (Wk.refl _ _).setCell (.inl (by simp)) _
        exact ⟨k2 + 1, acc2 ++ [z], _, u8, _, by omega, by have := hbd2.out rs2 rfl; omega, by go_num, Lib.hid (by have := hacc2.out; simp; omega), Lib.hid (((HKi.out.trans HKj.out).trans' HX.out (fun y hy => .inr (by have := (HXY.out y hy).1; omega))).setCell (.inr (Nat.le_refl _)) _), Lib.hid (A2.out.next hset (by simp <;> omega)), Lib.hid (HB9.out.set 5 (by simp) _), Lib.hid (own_keep A3.out hset (by exact fun g hg e => by have := (A3.out.lt g hg).1; omega)), Lib.hid (A4.out.stays sInt (fun k hk => ⟨⟨hk.1, Nat.lt_of_lt_of_le hk.2.1 hset.size, hk.2.2⟩, hset.block k hk.2.1 (by have := hk.1; simp; omega)⟩)), HB3, HL3⟩
      case measure => simp [intOf]; omega
    · have HT2 := stop2 (by
        by_cases hh : (k2 : Int) < ni
        · right; exact Classical.byContradiction fun h => hgo2 ⟨hh, h⟩
        · left; omega)
      obtain ⟨e1, e2⟩ := Prod.mk.inj HT2.out
      subst e1
      subst e2
      obtain ⟨a5, n5, c5, rfl⟩ := own_slice HOi.out
      have HMx := Lib.hid (HMr.out.next HKi.out (by simp <;> omega))
      have HOx := Lib.hid (own_keep HOr.out HKi.out (by exact fun g hg e => by have := (HOr.out.lt g hg).1; omega))
      have HVx : Hid (VIn wr (Nw wo.heap.size wr.heap.size) [.int .i64 y0, .int .i64 y1, .int .i64 y2, .int .i64 y3, .int .i64 y4, .slice a5 n5 c5] ⟨y0, y1, y2, y3, y4, al⟩) := ⟨_, rfl, OK5.out, Row.sl sInt HWi.out HOi.out (by show al.length ≤ _; omega) (P' := Nw wo.heap.size wr.heap.size) (fun k hk => ⟨Nat.le_of_succ_le hk.1, hk.2.1⟩) (fun g hg => ⟨by have := (HOi.out.lt g hg).1; omega, (HOi.out.lt g hg).2⟩)⟩
      have b0 : wr.cell? ⟨wo.heap.size, 0, none⟩ = some (.int .i64 y0) := (HBi.out 0 (by simp)).1
      have b1 : wr.cell? ⟨wo.heap.size, 1, none⟩ = some (.int .i64 y1) := (HBi.out 1 (by simp)).1
      have b2 : wr.cell? ⟨wo.heap.size, 2, none⟩ = some (.int .i64 y2) := (HBi.out 2 (by simp)).1
      have b3 : wr.cell? ⟨wo.heap.size, 3, none⟩ = some (.int .i64 y3) := (HBi.out 3 (by simp)).1
      have b4 : wr.cell? ⟨wo.heap.size, 4, none⟩ = some (.int .i64 y4) := (HBi.out 4 (by simp)).1
      have b5 : wr.cell? ⟨wo.heap.size, 5, none⟩ = some (.slice a5 n5 c5) := (HBi.out 5 (by simp)).1
      have b6 : wr.cell? ⟨w.heap.size + 1, 6, none⟩ = some v6 := (HMx.out 6 (by simp)).1
      have hMlt : w.heap.size + 1 < wr.heap.size := by omega
      have hgd : ((k2 : Int) < ni ∧ u7 = none) ∨ ¬ ((k2 : Int) < ni) := by
        by_cases hh : (k2 : Int) < ni
        · left; exact ⟨hh, Classical.byContradiction fun h => hgo2 ⟨hh, h⟩⟩
        · right; exact hh
      have hrl := hbd.out rs rfl
      clear stop2 hgo2 hal2 hk2n hk25
      rcases hgd with ⟨hg1, rfl⟩ | hg1
      all_goals
        try simp only [Option.isNone_none] at hfli
        go_wp2_with (at_builtin; refine wpList_append_lies _ rfl (.tmp 87) (.tmp 89) 44 rfl bs.heap.size 43 ii (.agg #[.int .i64 0, .int .i64 0, .int .i64 0, .int .i64 0, .int .i64 0, .slice none 0 0]) 6 64 Try.underlying44 hii hi0 hi1 hi2 rfl (by decide) _ _ _ (by simp [Act.eval, Act.put]) (HOx.out.alloc _) ⟨wr.heap.size, 0, none⟩ 1 1 [.int .i64 y0, .int .i64 y1, .int .i64 y2, .int .i64 y3, .int .i64 y4, .slice a5 n5 c5] (by simp [Act.eval, Act.put]) rfl (by exact news_set _ _ _ _ (by simp [World.setCell])) (by simp [Value.oneCell']) (by decide) (by unfold maxLen; omega) (by omega) (by simp [World.setCell]; omega) _ rfl ?_; intro g2 cap2 w9 hown3 hgrow3 hat3 hlt3; have HA := Lib.hid (item_addedG HSi.out HOx.out HWr.out HKi.out (by omega) hsz (fun g hg => (HOr.out.lt g hg).2) HVx.out sIn rfl hown3 hgrow3 hat3); have hc9 := after_cell HA.out.1 ((HMx.out 6 (by simp)).1) (by omega); have hf9 := after_frz HA.out.1 (⟨(HMx.out 6 (by simp)).2, by omega⟩) (by omega); clear hown3 hgrow3 hat3)
        obtain ⟨⟨X, hX, hXy⟩, a2, a3, a4⟩ := HA.out
        have HM9 := Lib.hid (HMx.out.next hX (by intro h; have := (hXy _ h).1; omega))
        have HX := Lib.hid hX; have HXY := Lib.hid hXy
        have A2 := Lib.hid a2; have A3 := Lib.hid a3; have A4 := Lib.hid a4
        have h9s := hX.size
        clear a2 a3 a4 HA hlt3 hX hXy b0 b1 b2 b3 b4 b5 b6
        go_wp2_with fail
        go_roundw
        case rel =>
          have hset : Wk [w.heap.size + 1] w9 (w9.setCell ⟨w.heap.size + 1, 6, none⟩ (.slice (some ⟨g2, 0, none⟩) (acc.length + 1) cap2)) := (Wk.refl _ _).setCell (.inl (by simp)) _
          exact ⟨k + 1, acc ++ [_], _, _, _, by omega, by omega, by go_num, Lib.hid (by have := hacc.out; simp; omega), Lib.hid (((HKr.out.trans (HKi.out.mono (by simp))).trans' HX.out (fun y hy => .inr (by have := (HXY.out y hy).1; omega))).setCell (.inl (by simp)) _), Lib.hid (A2.out.next hset (by simp <;> omega)), Lib.hid (HM9.out.set 6 (by simp) _), Lib.hid (own_keep A3.out hset (by exact fun g hg e => by have := (A3.out.lt g hg).1; omega)), Lib.hid (A4.out.stays sIn (fun k hk => ⟨⟨hk.1, Nat.lt_of_lt_of_le hk.2.1 hset.size, hk.2.2⟩, hset.block k hk.2.1 (by have := hk.1; simp; omega)⟩)), HB2, HL2⟩
        case measure => simp [intOf]; omega
  · have HT5 := stop (by
      by_cases hh : (k : Int) < n
      · right; exact Classical.byContradiction fun h => hgo ⟨hh, h⟩
      · left; omega)
    obtain ⟨e1, e2⟩ := Prod.mk.inj HT5.out
    subst e1
    subst e2
    have HC6 : Hid (SlV VIn 6 wo (Nw bs.heap.size wo.heap.size) v6 cl) := Row.sl sIn HWr.out HOr.out (by omega) (P' := Nw bs.heap.size wo.heap.size) (fun k hk => ⟨hk.1, hk.2.1⟩) (fun g hg => HOr.out.lt g hg)
    have hgd : ((k : Int) < n ∧ t7 = none) ∨ ¬ ((k : Int) < n) := by
      by_cases hh : (k : Int) < n
      · left; exact ⟨hh, Classical.byContradiction fun h => hgo ⟨hh, h⟩⟩
      · right; exact hh
    clear stop HLr hbd HOr HWr hgo HT5
    obtain ⟨a6, c6, rfl, _, _, _⟩ := HC6.out
    rcases hgd with ⟨hg1, rfl⟩ | hg1
    all_goals
      try simp only [Option.isNone_none] at hfl
      go_wp2_with fail
      refine (manyTw B b all _ _ HSr.out hlen).mono ?_
      rw [RN2.out]
      rintro e w4 ⟨hk, v2, rfl, hv2, hS2⟩
      unfold RInt at hv2
      subst hv2
      have HK4 : Hid (Wk [b, w.heap.size + 1] wo w4) := hk.mono (by simp)
      have HM4 := Lib.hid (HMr.out.next hk (by simp <;> omega))
      have HC4 := Lib.hid (HC6.out.stays sIn (fun k hk' => ⟨hk', hk.block k hk'.2 (by simp; have := hk'.1; omega)⟩))
      have HS4 := Lib.hid hS2
      have hl4 := Lib.hid (lens_st hS2 hlen)
      have h4s := hk.size
      have HH0 : Hid ((hl, t9) = ([] ++ (listT hdT (n2.toNat - 0) t8).1, (listT hdT (n2.toNat - 0) t8).2)) := by
        show _ = _
        rw [Nat.sub_zero, RH.out]; rfl
      clear hk hS2
      go_wp2_with fail
      go_loopw [11] (fun i wr => ∃ (k : Nat) (acc : List Hd) (xs : List Value) (s' : S) (v7 : Value), ((k : Int) ≤ n2 ∨ k = 0) ∧ k ≤ 500001 ∧ i = .int .i64 k ∧ Hid (acc.length = k) ∧ Hid (Wk [b, w.heap.size + 1] w4 wr) ∧ Hid (St wr B b all s') ∧ Hid (Blk wr (w.heap.size + 1) [.slice pa pl.length pcap, .int .i64 x0, .int .i64 x1, .int .i64 x2, .int .i64 x3, .int .i64 x4, .slice a6 cl.length c6, v7]) ∧ Hid (wr.ownsRow w4.heap.size 89 4 v7 acc.length xs) ∧ Hid (Row VHd 4 wr (Rw w4.heap.size wr v7) xs acc) ∧ Hid (∀ rs, s' = some rs → rs.length + 8 * k ≤ 4000000) ∧ Hid ((hl, t9) = (acc ++ (listT hdT (n2.toNat - k) s').1, (listT hdT (n2.toNat - k) s').2))) (fun i _ => n2.toNat - (intOf i).toNat)
      case atStart => exact ⟨0, [], [], t8, _, by omega, by omega, rfl, rfl, Lib.hid (Wk.refl _ _), HS4, HM4, World.ownsRow_nil _ _ _ _, Row.nil _ _ _ _, Lib.hid (fun rs h => by have := hl4.out rs h; omega), HH0⟩
      case round =>
      obtain ⟨k3, acc3, xs3, s3, v7, hk3n, hk35, rfl, hacc3, HKh, HSh, HMh, HOh, HWh, hbd3, HLh⟩ := hrel
      have hsh := HKh.out.size
      have hblh := HSh.out.lt
      have hflh := flag HSh.out
      have hMlt : w.heap.size + 1 < wr.heap.size := by omega
      have hal3 : acc3.length ≤ 500001 := by have := hacc3.out; omega
      have stop3 : (n2.toNat - k3 = 0 ∨ s3 = none) → Hid ((hl, t9) = (acc3, s3)) := fun h => listT_stop HLh.out h
      by_cases hgo3 : (k3 : Int) < n2 ∧ s3 ≠ none
      · obtain ⟨hlt3, hne3⟩ := hgo3
        obtain ⟨rs3, rfl⟩ : ∃ rs3, s3 = some rs3 := by
          cases s3 with
          | none => exact absurd rfl hne3
          | some rs3 => exact ⟨rs3, rfl⟩
        simp only [Option.isNone_some] at hflh
        have hnk : n2.toNat - k3 = (n2.toNat - (k3 + 1)) + 1 := by omega
        obtain ⟨⟨z0, u1⟩, E0⟩ : ∃ y, Hid (rdT (some rs3) = y) := ⟨_, rfl⟩
        obtain ⟨⟨z1, u2⟩, E1⟩ : ∃ y, Hid (rdT u1 = y) := ⟨_, rfl⟩
        obtain ⟨⟨z2, u3⟩, E2⟩ : ∃ y, Hid (rdT u2 = y) := ⟨_, rfl⟩
        obtain ⟨⟨z3, u4⟩, E3⟩ : ∃ y, Hid (rdT u3 = y) := ⟨_, rfl⟩
        have HI : Hid (hdT (some rs3) = (⟨z0, z1, z2, z3⟩, u4)) := by
          show _ = _
          unfold hdT
          simp only [E0.out, E1.out, E2.out, E3.out]
        have OKh : Hid (HdOk ⟨z0, z1, z2, z3⟩) := by
          have a0 := rdT_ok (some rs3); rw [E0.out] at a0
          have a1 := rdT_ok u1; rw [E1.out] at a1
          have a2 := rdT_ok u2; rw [E2.out] at a2
          have a3 := rdT_ok u3; rw [E3.out] at a3
          exact ⟨a0, a1, a2, a3⟩
        have HL5 : Hid ((hl, t9) = ((acc3 ++ [(⟨z0, z1, z2, z3⟩ : Hd)]) ++ (listT hdT (n2.toNat - (k3 + 1)) u4).1, (listT hdT (n2.toNat - (k3 + 1)) u4).2)) := by
          have h0 := HLh.out
          rw [hnk] at h0
          have := listT_step (t := hdT) (m := n2.toNat - (k3 + 1)) h0
          rw [HI.out] at this; exact this
        have HB5 : Hid (∀ r, u4 = some r → r.length + 8 * (k3 + 1) ≤ 4000000) := fun r h => by
          have := hbd3.out rs3 rfl
          have := eatsT_of tot_hd hd_wrote (fun x => by simp only [hdB, List.length_append, wide_len] <;> omega) rs3 r (by rw [HI.out]; exact h); omega
        clear stop3 hnk hne3
        go_wp2_with fail
        refine callsR (fun W => Hid (Wk [b] wr W) ∧ Hid (St W B b all (some rs3)) ∧ Hid (Blk W wr.heap.size [.int .i64 0, .int .i64 0, .int .i64 0, .int .i64 0])) ⟨Lib.hid ((Wk.refl _ _).alloc _), Lib.hid (HSh.out.alloc _), ?_⟩ ?_
        · show Blk _ _ _
          intro j hj
          match j, hj with
          | 0, _ => exact ⟨by go_simp; try rfl, by go_simp⟩
          | 1, _ => exact ⟨by go_simp; try rfl, by go_simp⟩
          | 2, _ => exact ⟨by go_simp; try rfl, by go_simp⟩
          | 3, _ => exact ⟨by go_simp; try rfl, by go_simp⟩
        rintro g0 ⟨HKg0, HSg0, HBg0⟩
        refine (numberT B b all (some rs3) _ HSg0.out hlen).mono ?_
        rw [E0.out]
        rintro e p21 ⟨hk, v2, rfl, hv2, hS2⟩
        unfold RInt at hv2
        subst hv2
        have HKp21 := Lib.hid (HKg0.out.trans hk)
        have HBp21 := Lib.hid (HBg0.out.next hk (by simp <;> omega))
        have HSp21 := Lib.hid hS2
        have m0 : p21.cell? ⟨wr.heap.size, 0, none⟩ = some (.int .i64 0) := (HBp21.out 0 (by simp)).1
        have m1 : p21.frozen? ⟨wr.heap.size, 0, none⟩ = false := (HBp21.out 0 (by simp)).2
        clear hk hS2
        go_wp2_with fail
        refine callsR (fun W => Hid (Wk [b] wr W) ∧ Hid (St W B b all u1) ∧ Hid (Blk W wr.heap.size [.int .i64 z0, .int .i64 0, .int .i64 0, .int .i64 0])) ⟨Lib.hid (HKp21.out.setCell (.inr (Nat.le_refl _)) _), Lib.hid (HSp21.out.next (X := [wr.heap.size]) ((Wk.refl _ _).setCell (.inl (by simp)) _) (by simp <;> omega)), Lib.hid (HBp21.out.set 0 (by simp) _)⟩ ?_
        rintro q22 ⟨HKq22, HSq22, HBq22⟩
        clear m0 m1
        refine (numberT B b all u1 _ HSq22.out hlen).mono ?_
        rw [E1.out]
        rintro e p23 ⟨hk, v2, rfl, hv2, hS2⟩
        unfold RInt at hv2
        subst hv2
        have HKp23 := Lib.hid (HKq22.out.trans hk)
        have HBp23 := Lib.hid (HBq22.out.next hk (by simp <;> omega))
        have HSp23 := Lib.hid hS2
        have m0 : p23.cell? ⟨wr.heap.size, 1, none⟩ = some (.int .i64 0) := (HBp23.out 1 (by simp)).1
        have m1 : p23.frozen? ⟨wr.heap.size, 1, none⟩ = false := (HBp23.out 1 (by simp)).2
        clear hk hS2
        go_wp2_with fail
        refine callsR (fun W => Hid (Wk [b] wr W) ∧ Hid (St W B b all u2) ∧ Hid (Blk W wr.heap.size [.int .i64 z0, .int .i64 z1, .int .i64 0, .int .i64 0])) ⟨Lib.hid (HKp23.out.setCell (.inr (Nat.le_refl _)) _), Lib.hid (HSp23.out.next (X := [wr.heap.size]) ((Wk.refl _ _).setCell (.inl (by simp)) _) (by simp <;> omega)), Lib.hid (HBp23.out.set 1 (by simp) _)⟩ ?_
        rintro q24 ⟨HKq24, HSq24, HBq24⟩
        clear m0 m1
        refine (numberT B b all u2 _ HSq24.out hlen).mono ?_
        rw [E2.out]
        rintro e p25 ⟨hk, v2, rfl, hv2, hS2⟩
        unfold RInt at hv2
        subst hv2
        have HKp25 := Lib.hid (HKq24.out.trans hk)
        have HBp25 := Lib.hid (HBq24.out.next hk (by simp <;> omega))
        have HSp25 := Lib.hid hS2
        have m0 : p25.cell? ⟨wr.heap.size, 2, none⟩ = some (.int .i64 0) := (HBp25.out 2 (by simp)).1
        have m1 : p25.frozen? ⟨wr.heap.size, 2, none⟩ = false := (HBp25.out 2 (by simp)).2
        clear hk hS2
        go_wp2_with fail
        refine callsR (fun W => Hid (Wk [b] wr W) ∧ Hid (St W B b all u3) ∧ Hid (Blk W wr.heap.size [.int .i64 z0, .int .i64 z1, .int .i64 z2, .int .i64 0])) ⟨Lib.hid (HKp25.out.setCell (.inr (Nat.le_refl _)) _), Lib.hid (HSp25.out.next (X := [wr.heap.size]) ((Wk.refl _ _).setCell (.inl (by simp)) _) (by simp <;> omega)), Lib.hid (HBp25.out.set 2 (by simp) _)⟩ ?_
        rintro q26 ⟨HKq26, HSq26, HBq26⟩
        clear m0 m1
        refine (numberT B b all u3 _ HSq26.out hlen).mono ?_
        rw [E3.out]
        rintro e p27 ⟨hk, v2, rfl, hv2, hS2⟩
        unfold RInt at hv2
        subst hv2
        have HKp27 := Lib.hid (HKq26.out.trans hk)
        have HBp27 := Lib.hid (HBq26.out.next hk (by simp <;> omega))
        have HSp27 := Lib.hid hS2
        have m0 : p27.cell? ⟨wr.heap.size, 3, none⟩ = some (.int .i64 0) := (HBp27.out 3 (by simp)).1
        have m1 : p27.frozen? ⟨wr.heap.size, 3, none⟩ = false := (HBp27.out 3 (by simp)).2
        clear hk hS2
        have HKj : Hid (Wk [b] wr (p27.setCell ⟨wr.heap.size, 3, none⟩ (.int .i64 z3))) := HKp27.out.setCell (.inr (Nat.le_refl _)) _
        have HSj : Hid (St (p27.setCell ⟨wr.heap.size, 3, none⟩ (.int .i64 z3)) B b all u4) := HSp27.out.next (X := [wr.heap.size]) ((Wk.refl _ _).setCell (.inl (by simp)) _) (by simp <;> omega)
        have HMj := Lib.hid (HMh.out.next HKj.out (by simp <;> omega))
        have HOj := Lib.hid (own_keep HOh.out HKj.out (by exact fun g hg e => by have := (HOh.out.lt g hg).1; omega))
        have HVj : Hid (VHd (p27.setCell ⟨wr.heap.size, 3, none⟩ (.int .i64 z3)) (Nw wr.heap.size (p27.setCell ⟨wr.heap.size, 3, none⟩ (.int .i64 z3)).heap.size) [.int .i64 z0, .int .i64 z1, .int .i64 z2, .int .i64 z3] ⟨z0, z1, z2, z3⟩) := ⟨rfl, OKh.out⟩
        have hjs := HKj.out.size
        have hks := HKp27.out.size
        have hpb : p27.cell? ⟨w.heap.size + 1, 7, none⟩ = some v7 := ((HMh.out.next HKp27.out (by simp <;> omega)) 7 (by simp)).1
        have b0 : p27.cell? ⟨wr.heap.size, 0, none⟩ = some (.int .i64 z0) := (HBp27.out 0 (by simp)).1
        have b1 : p27.cell? ⟨wr.heap.size, 1, none⟩ = some (.int .i64 z1) := (HBp27.out 1 (by simp)).1
        have b2 : p27.cell? ⟨wr.heap.size, 2, none⟩ = some (.int .i64 z2) := (HBp27.out 2 (by simp)).1
        go_wp2_with (at_builtin; refine wpList_append_lies _ rfl (.tmp 120) (.tmp 122) 47 rfl w4.heap.size 89 ih (.agg #[.int .i64 0, .int .i64 0, .int .i64 0, .int .i64 0]) 4 32 Try.underlying47 hih hh0 hh1 hh2 rfl (by decide) _ _ _ (by simp [Act.eval, Act.put]) (HOj.out.alloc _) ⟨p27.heap.size, 0, none⟩ 1 1 [.int .i64 z0, .int .i64 z1, .int .i64 z2, .int .i64 z3] (by simp [Act.eval, Act.put]) rfl (by exact news_set _ _ _ _ (by simp [World.setCell])) (by simp [Value.oneCell']) (by decide) (by unfold maxLen; omega) (by omega) (by simp [World.setCell]; omega) _ rfl ?_; intro g2 cap2 w9 hown3 hgrow3 hat3 hlt3; have HA := Lib.hid (item_addedG HSj.out HOj.out HWh.out HKj.out (by omega) hsh (fun g hg => (HOh.out.lt g hg).2) HVj.out sHd rfl hown3 hgrow3 hat3); have hc9 := after_cell HA.out.1 ((HMj.out 7 (by simp)).1) (by omega); have hf9 := after_frz HA.out.1 (⟨(HMj.out 7 (by simp)).2, by omega⟩) (by omega); clear hown3 hgrow3 hat3)
        obtain ⟨⟨X, hX, hXy⟩, a2, a3, a4⟩ := HA.out
        have HM9 := Lib.hid (HMj.out.next hX (by intro h; have := (hXy _ h).1; omega))
        have HX := Lib.hid hX; have HXY := Lib.hid hXy
        have A2 := Lib.hid a2; have A3 := Lib.hid a3; have A4 := Lib.hid a4
        have h9s := hX.size
        clear a2 a3 a4 HA hX hXy b0 b1 b2 m0 m1 hpb
        go_wp2_with fail
        go_roundw
        case rel =>
          have hset : Wk [w.heap.size + 1] w9 (w9.setCell ⟨w.heap.size + 1, 7, none⟩ (.slice (some ⟨g2, 0, none⟩) (acc3.length + 1) cap2)) := (Wk.refl _ _).setCell (.inl (by simp)) _
          exact ⟨k3 + 1, acc3 ++ [_], _, _, _, by omega, by have := hbd3.out rs3 rfl; omega, by go_num, Lib.hid (by have := hacc3.out; simp; omega), Lib.hid (((HKh.out.trans (HKj.out.mono (by simp))).trans' HX.out (fun y hy => .inr (by have := (HXY.out y hy).1; omega))).setCell (.inl (by simp)) _), Lib.hid (A2.out.next hset (by simp <;> omega)), Lib.hid (HM9.out.set 7 (by simp) _), Lib.hid (own_keep A3.out hset (by exact fun g hg e => by have := (A3.out.lt g hg).1; omega)), Lib.hid (A4.out.stays sHd (fun k hk => ⟨⟨hk.1, Nat.lt_of_lt_of_le hk.2.1 hset.size, hk.2.2⟩, hset.block k hk.2.1 (by have := hk.1; simp; omega)⟩)), HB5, HL5⟩
        case measure => simp [intOf]; omega
      · have HT6 := stop3 (by
          by_cases hh : (k3 : Int) < n2
          · right; exact Classical.byContradiction fun h => hgo3 ⟨hh, h⟩
          · left; omega)
        obtain ⟨e1, e2⟩ := Prod.mk.inj HT6.out
        subst e1
        subst e2
        have HH7 : Hid (SlV VHd 4 wr (Nw w4.heap.size wr.heap.size) v7 hl) := Row.sl sHd HWh.out HOh.out (by omega) (P' := Nw w4.heap.size wr.heap.size) (fun k hk => ⟨hk.1, hk.2.1⟩) (fun g hg => HOh.out.lt g hg)
        have hgd2 : ((k3 : Int) < n2 ∧ t9 = none) ∨ ¬ ((k3 : Int) < n2) := by
          by_cases hh : (k3 : Int) < n2
          · left; exact ⟨hh, Classical.byContradiction fun h => hgo3 ⟨hh, h⟩⟩
          · right; exact hh
        clear stop3 HLh hbd3 HOh HWh hgo3 HT6
        obtain ⟨a7, c7, rfl, _, _, _⟩ := HH7.out
        have HKall : Hid (Wk [b, w.heap.size + 1] bs wr) := (HKr.out.trans HK4.out).trans HKh.out
        have HZx := Lib.hid (HZb.out.next HKall.out (by simp <;> omega))
        have HPx := Lib.hid (HPb.out.stays sTy (fun k hk => ⟨hk, HKall.out.block k hk.2 (by simp; have := hk.1; omega)⟩))
        have HCx := Lib.hid (HC4.out.stays sIn (fun k hk => ⟨hk, HKh.out.block k (by have := hk.2; omega) (by simp; have := hk.1; omega)⟩))
        rcases hgd2 with ⟨hg2, rfl⟩ | hg2
        all_goals
          try simp only [Option.isNone_none] at hflh
          have m0 : wr.cell? ⟨w.heap.size + 1, 0, none⟩ = some (.slice pa pl.length pcap) := (HMh.out 0 (by simp)).1
          have m1 : wr.cell? ⟨w.heap.size + 1, 1, none⟩ = some (.int .i64 x0) := (HMh.out 1 (by simp)).1
          have m2 : wr.cell? ⟨w.heap.size + 1, 2, none⟩ = some (.int .i64 x1) := (HMh.out 2 (by simp)).1
          have m3 : wr.cell? ⟨w.heap.size + 1, 3, none⟩ = some (.int .i64 x2) := (HMh.out 3 (by simp)).1
          have m4 : wr.cell? ⟨w.heap.size + 1, 4, none⟩ = some (.int .i64 x3) := (HMh.out 4 (by simp)).1
          have m5 : wr.cell? ⟨w.heap.size + 1, 5, none⟩ = some (.int .i64 x4) := (HMh.out 5 (by simp)).1
          have m6 : wr.cell? ⟨w.heap.size + 1, 6, none⟩ = some (.slice a6 cl.length c6) := (HMh.out 6 (by simp)).1
          have m7 : wr.cell? ⟨w.heap.size + 1, 7, none⟩ = some (.slice a7 hl.length c7) := (HMh.out 7 (by simp)).1
          have y0 : wr.cell? ⟨w.heap.size, 0, none⟩ = some (.slice none 0 0) := (HZx.out 0 (by simp)).1
          have f0 : wr.frozen? ⟨w.heap.size, 0, none⟩ = false := (HZx.out 0 (by simp)).2
          have y1 : wr.cell? ⟨w.heap.size, 1, none⟩ = some (.int .i64 0) := (HZx.out 1 (by simp)).1
          have f1 : wr.frozen? ⟨w.heap.size, 1, none⟩ = false := (HZx.out 1 (by simp)).2
          have y2 : wr.cell? ⟨w.heap.size, 2, none⟩ = some (.int .i64 0) := (HZx.out 2 (by simp)).1
          have f2 : wr.frozen? ⟨w.heap.size, 2, none⟩ = false := (HZx.out 2 (by simp)).2
          have y3 : wr.cell? ⟨w.heap.size, 3, none⟩ = some (.int .i64 0) := (HZx.out 3 (by simp)).1
          have f3 : wr.frozen? ⟨w.heap.size, 3, none⟩ = false := (HZx.out 3 (by simp)).2
          have y4 : wr.cell? ⟨w.heap.size, 4, none⟩ = some (.int .i64 0) := (HZx.out 4 (by simp)).1
          have f4 : wr.frozen? ⟨w.heap.size, 4, none⟩ = false := (HZx.out 4 (by simp)).2
          have y5 : wr.cell? ⟨w.heap.size, 5, none⟩ = some (.int .i64 0) := (HZx.out 5 (by simp)).1
          have f5 : wr.frozen? ⟨w.heap.size, 5, none⟩ = false := (HZx.out 5 (by simp)).2
          have y6 : wr.cell? ⟨w.heap.size, 6, none⟩ = some (.slice none 0 0) := (HZx.out 6 (by simp)).1
          have f6 : wr.frozen? ⟨w.heap.size, 6, none⟩ = false := (HZx.out 6 (by simp)).2
          have y7 : wr.cell? ⟨w.heap.size, 7, none⟩ = some (.slice none 0 0) := (HZx.out 7 (by simp)).1
          have f7 : wr.frozen? ⟨w.heap.size, 7, none⟩ = false := (HZx.out 7 (by simp)).2
          have hNN : ¬ w.heap.size = w.heap.size + 1 := by omega
          go_wp2_with fail
          refine bodyPost_ret (v := .agg #[.slice pa pl.length pcap, .int .i64 x0, .int .i64 x1, .int .i64 x2, .int .i64 x3, .int .i64 x4, .slice a6 cl.length c6, .slice a7 hl.length c7]) (by simp [results, Try.results79, go_sem]; go_simp) rfl ?_
          unfold RT
          rw [HT.out]
          have hfin : Wk [w.heap.size] wr _ := (((((((((Wk.refl [w.heap.size] wr).setCell (p := ⟨w.heap.size, 0, none⟩) (.inl (by simp)) (.slice pa pl.length pcap)).setCell (p := ⟨w.heap.size, 1, none⟩) (.inl (by simp)) (.int .i64 x0)).setCell (p := ⟨w.heap.size, 2, none⟩) (.inl (by simp)) (.int .i64 x1)).setCell (p := ⟨w.heap.size, 3, none⟩) (.inl (by simp)) (.int .i64 x2)).setCell (p := ⟨w.heap.size, 4, none⟩) (.inl (by simp)) (.int .i64 x3)).setCell (p := ⟨w.heap.size, 5, none⟩) (.inl (by simp)) (.int .i64 x4)).setCell (p := ⟨w.heap.size, 6, none⟩) (.inl (by simp)) (.slice a6 cl.length c6)).setCell (p := ⟨w.heap.size, 7, none⟩) (.inl (by simp)) (.slice a7 hl.length c7))
          have hz7 := hfin.size
          refine ⟨(HKb.out.trans' HKall.out (fun y hy => by simp at hy; rcases hy with rfl | rfl; exact .inl (by simp); exact .inr (by omega))).trans' hfin (fun y hy => .inr (by simp at hy; omega)), _, rfl, ⟨_, rfl, _, _, _, rfl, ⟨ok0.out, ok1.out, ok2.out, ok3.out, ok4.out⟩, HPx.out.stays sTy (fun k hk => ?_), HCx.out.stays sIn (fun k hk => ?_), HH7.out.stays sHd (fun k hk => ?_)⟩, HSh.out.next hfin (fun y hy => by simp at hy; omega)⟩
          · obtain ⟨k1, k2⟩ := hk
            exact ⟨⟨by omega, Nat.lt_of_lt_of_le (show k < wr.heap.size by omega) hz7⟩, hfin.block k (by omega) (by simp <;> omega)⟩
          · obtain ⟨k1, k2⟩ := hk
            exact ⟨⟨by omega, Nat.lt_of_lt_of_le (show k < wr.heap.size by omega) hz7⟩, hfin.block k (by omega) (by simp <;> omega)⟩
          · obtain ⟨k1, k2⟩ := hk
            exact ⟨⟨by omega, Nat.lt_of_lt_of_le k2 hz7⟩, hfin.block k k2 (by simp <;> omega)⟩
end Wire
end Go.Proofs.Ytncmhenfgbcihaa
