/- Reading bytes: what is made of them, as a world holds it; num and kind. -/
import Derived.Test.YtncmhenfgbcihabRdr
namespace Go.Proofs.Ytncmhenfgbcihab
open Go.RowKit
set_option linter.unusedSimpArgs false
set_option linter.unusedVariables false
namespace Wire
open Num Rd D Bytes HierW

/-- one element's cells lie at a place -/
def At {α : Type} (V : World → (Nat → Prop) → List Value → α → Prop) (size : Nat) (w : World) (P : Nat → Prop) (g o : Nat) (x : α) : Prop :=
  ∃ cs, cs.length = size ∧ V w P cs x ∧ ∀ j u, cs[j]? = some u → w.cell? ⟨g, o + j, none⟩ = some u
/-- a slice, of blocks that P names -/
def SlV {α : Type} (V : World → (Nat → Prop) → List Value → α → Prop) (size : Nat) (w : World) (P : Nat → Prop) (v : Value) (l : List α) : Prop :=
  ∃ (a : Option Addr) (cap : Nat), v = .slice a l.length cap ∧ l.length ≤ cap ∧ cap ≤ 9223372036854775807 ∧
    ∀ i (h : i < l.length), ∃ g o, a = some ⟨g, o, none⟩ ∧ P g ∧ At V size w P g (o + i * size) l[i]

def VInt (_ : World) (_ : Nat → Prop) (cs : List Value) (x : Int) : Prop := cs = [.int .i64 x] ∧ Ok x
def VTy (_ : World) (_ : Nat → Prop) (cs : List Value) (x : Ty) : Prop := cs = [.int .i64 x.kind, .int .i64 x.cls] ∧ TyOk x
def VHd (_ : World) (_ : Nat → Prop) (cs : List Value) (x : Hd) : Prop := cs = [.int .i64 x.lo, .int .i64 x.hi, .int .i64 x.go, .int .i64 x.cls] ∧ HdOk x
def VCl (w : World) (P : Nat → Prop) (cs : List Value) (x : Cls) : Prop := ∃ v, cs = [.int .i64 x.sup, v] ∧ Ok x.sup ∧ SlV VTy 2 w P v x.fields
def VIn (w : World) (P : Nat → Prop) (cs : List Value) (x : Ins) : Prop := ∃ v, cs = [.int .i64 x.op, .int .i64 x.a, .int .i64 x.b, .int .i64 x.c, .int .i64 x.n, v] ∧ (Ok x.op ∧ Ok x.a ∧ Ok x.b ∧ Ok x.c ∧ Ok x.n) ∧ SlV VInt 1 w P v x.args
def VMt (w : World) (P : Nat → Prop) (cs : List Value) (x : Me) : Prop := ∃ vp vc vh, cs = [vp, .int .i64 x.ret.kind, .int .i64 x.ret.cls, .int .i64 x.stack, .int .i64 x.locals, .int .i64 x.regs, vc, vh] ∧
  (Ok x.ret.kind ∧ Ok x.ret.cls ∧ Ok x.stack ∧ Ok x.locals ∧ Ok x.regs) ∧ SlV VTy 2 w P vp x.params ∧ SlV VIn 6 w P vc x.code ∧ SlV VHd 4 w P vh x.handlers

/-- what is so stays so where the named blocks do -/
def Stays {α : Type} (V : World → (Nat → Prop) → List Value → α → Prop) : Prop :=
  ∀ w w' (P P' : Nat → Prop) cs x, (∀ k, P k → P' k ∧ w'.heap[k]? = w.heap[k]?) → V w P cs x → V w' P' cs x
theorem SlV.stays {α : Type} {V : World → (Nat → Prop) → List Value → α → Prop} (hV : Stays V) {size : Nat} {w w' : World} {P P' : Nat → Prop} {v : Value} {l : List α} (hk : ∀ k, P k → P' k ∧ w'.heap[k]? = w.heap[k]?) (h : SlV V size w P v l) : SlV V size w' P' v l := by
  obtain ⟨a, cap, h1, h2, h3, h4⟩ := h
  refine ⟨a, cap, h1, h2, h3, fun i hi => ?_⟩
  obtain ⟨g, o, ha, hP, cs, hl, hv, hc⟩ := h4 i hi
  refine ⟨g, o, ha, (hk g hP).1, cs, hl, hV _ _ _ _ _ _ hk hv, fun j u hu => ?_⟩
  exact (World.cell?_of_block (a := ⟨g, o + i * size + j, none⟩) (hk g hP).2).trans (hc j u hu)
theorem sInt : Stays VInt := fun _ _ _ _ _ _ _ h => h
theorem sTy : Stays VTy := fun _ _ _ _ _ _ _ h => h
theorem sHd : Stays VHd := fun _ _ _ _ _ _ _ h => h
theorem sCl : Stays VCl := fun _ _ _ _ _ _ hk ⟨v, h1, h2, h3⟩ => ⟨v, h1, h2, h3.stays sTy hk⟩
theorem sIn : Stays VIn := fun _ _ _ _ _ _ hk ⟨v, h1, h2, h3⟩ => ⟨v, h1, h2, h3.stays sInt hk⟩
theorem sMt : Stays VMt := fun _ _ _ _ _ _ hk ⟨vp, vc, vh, h1, h2, h3, h4, h5⟩ => ⟨vp, vc, vh, h1, h2, h3.stays sTy hk, h4.stays sIn hk, h5.stays sHd hk⟩

/-- .. and is what was said of data -/
theorem SlV.sl {α : Type} {V : World → (Nat → Prop) → List Value → α → Prop} {E : World → Nat → Nat → Nat → α → Prop} {size : Nat} {w : World} {P : Nat → Prop} {B : Nat} (hE : ∀ g o x, At V size w P g o x → E w B g o x) (hP : ∀ k, P k → k < B) {v : Value} {l : List α} (h : SlV V size w P v l) : Sl size E w B v l := by
  obtain ⟨a, cap, h1, h2, h3, h4⟩ := h
  refine ⟨a, cap, h1, h2, h3, fun i hi => ?_⟩
  obtain ⟨g, o, ha, hg, he⟩ := h4 i hi
  exact ⟨g, o, ha, hP g hg, hE _ _ _ he⟩
section
variable {w : World} {P : Nat → Prop} {B : Nat}
theorem eInt (g o : Nat) (x : Int) (h : At VInt 1 w P g o x) : EInt w B g o x := by
  obtain ⟨cs, _, ⟨rfl, hok⟩, hc⟩ := h; exact ⟨hc 0 _ rfl, hok⟩
theorem eTy (g o : Nat) (x : Ty) (h : At VTy 2 w P g o x) : ETy w B g o x := by
  obtain ⟨cs, _, ⟨rfl, hok⟩, hc⟩ := h; exact ⟨hc 0 _ rfl, hc 1 _ rfl, hok.1, hok.2⟩
theorem eHd (g o : Nat) (x : Hd) (h : At VHd 4 w P g o x) : EHd w B g o x := by
  obtain ⟨cs, _, ⟨rfl, hok⟩, hc⟩ := h; exact ⟨hc 0 _ rfl, hc 1 _ rfl, hc 2 _ rfl, hc 3 _ rfl, hok⟩
theorem eCl (hP : ∀ k, P k → k < B) (g o : Nat) (x : Cls) (h : At VCl 2 w P g o x) : ECls w B g o x := by
  obtain ⟨cs, _, ⟨v, rfl, hok, hs⟩, hc⟩ := h; exact ⟨hc 0 _ rfl, hok, v, hc 1 _ rfl, hs.sl eTy hP⟩
theorem eIn (hP : ∀ k, P k → k < B) (g o : Nat) (x : Ins) (h : At VIn 6 w P g o x) : EIns w B g o x := by
  obtain ⟨cs, _, ⟨v, rfl, hok, hs⟩, hc⟩ := h; exact ⟨hc 0 _ rfl, hc 1 _ rfl, hc 2 _ rfl, hc 3 _ rfl, hc 4 _ rfl, hok, v, hc 5 _ rfl, hs.sl eInt hP⟩
theorem eMt (hP : ∀ k, P k → k < B) (g o : Nat) (x : Me) (h : At VMt 8 w P g o x) : EMe w B g o x := by
  obtain ⟨cs, _, ⟨vp, vc, vh, rfl, hok, h1, h2, h3⟩, hc⟩ := h
  exact ⟨vp, vc, vh, hc 0 _ rfl, hc 1 _ rfl, hc 2 _ rfl, hc 3 _ rfl, hc 4 _ rfl, hc 5 _ rfl, hc 6 _ rfl, hc 7 _ rfl, hok, h1.sl eTy hP, h2.sl (eIn hP) hP, h3.sl eHd hP⟩
end

/-- the elements' cells, one behind another -/
def Row {α : Type} (V : World → (Nat → Prop) → List Value → α → Prop) (size : Nat) (w : World) (P : Nat → Prop) (xs : List Value) (l : List α) : Prop :=
  xs.length = l.length * size ∧ ∀ i (h : i < l.length), V w P ((xs.drop (i * size)).take size) l[i]
theorem Row.nil {α : Type} (V : World → (Nat → Prop) → List Value → α → Prop) (size : Nat) (w : World) (P : Nat → Prop) : Row V size w P [] [] := ⟨by simp, fun i h => absurd h (by simp)⟩
theorem Row.snoc {α : Type} {V : World → (Nat → Prop) → List Value → α → Prop} {size : Nat} {w : World} {P : Nat → Prop} {xs : List Value} {l : List α} (h : Row V size w P xs l) {cs : List Value} {x : α} (hl : cs.length = size) (hx : V w P cs x) : Row V size w P (xs ++ cs) (l ++ [x]) := by
  refine ⟨by rw [List.length_append, h.1, hl, List.length_append, Nat.add_mul]; simp, fun i hi => ?_⟩
  by_cases hlt : i < l.length
  · rw [List.getElem_append_left hlt, List.drop_append_of_le_length (by rw [h.1]; exact Nat.mul_le_mul_right _ (by omega)), List.take_append_of_le_length]
    · exact h.2 i hlt
    · rw [List.length_drop, h.1]
      have : (i + 1) * size ≤ l.length * size := Nat.mul_le_mul_right _ (by omega)
      rw [Nat.add_mul] at this; omega
  · have hi' : i = l.length := by simp at hi; omega
    subst hi'
    rw [show l.length * size = xs.length from h.1.symm, List.drop_left, List.take_of_length_le (by omega)]
    simpa using hx
theorem Row.stays {α : Type} {V : World → (Nat → Prop) → List Value → α → Prop} (hV : Stays V) {size : Nat} {w w' : World} {P P' : Nat → Prop} {xs : List Value} {l : List α} (hk : ∀ k, P k → P' k ∧ w'.heap[k]? = w.heap[k]?) (h : Row V size w P xs l) : Row V size w' P' xs l :=
  ⟨h.1, fun i hi => hV _ _ _ _ _ _ hk (h.2 i hi)⟩
/-- a row that is owned is such a slice -/
theorem Row.sl {α : Type} {V : World → (Nat → Prop) → List Value → α → Prop} (hV : Stays V) {size : Nat} {w : World} {P P' : Nat → Prop} {T : TypeId} {v : Value} {xs : List Value} {l : List α} (h : Row V size w P xs l) {base : Nat} (ho : w.ownsRow base T size v l.length xs) (hlen : l.length ≤ 9223372036854775807) (hP : ∀ k, P k → P' k) (hg : ∀ g, v.ownBlock = some g → P' g) : SlV V size w P' v l := by
  have hcell : ∀ g, v.ownBlock = some g → ∀ j u, xs[j]? = some u → w.cell? ((⟨g, 0, none⟩ : Addr).add j) = some u := fun g hg => World.ownsRow.cells ho hg
  rcases ho.2 with ⟨rfl, h0⟩ | ⟨g, cap, cur, rfl, _, _, hc1, hc2, _⟩
  · have : l = [] := List.eq_nil_of_length_eq_zero h0
    subst this
    exact ⟨none, 0, rfl, Nat.le_refl _, by omega, fun i h => absurd h (by simp)⟩
  · refine ⟨_, cap, rfl, hc1, by have : maxLen = 9223372036854775807 := rfl; omega, fun i hi => ⟨g, 0, rfl, hg g rfl, (xs.drop (i * size)).take size, ?_, hV _ _ _ _ _ _ (fun k hk => ⟨hP k hk, rfl⟩) (h.2 i hi), fun j u hu => ?_⟩⟩
    · have : (i + 1) * size ≤ l.length * size := Nat.mul_le_mul_right _ (by omega)
      rw [Nat.add_mul] at this
      rw [List.length_take, List.length_drop, h.1]; omega
    · rw [List.getElem?_take] at hu
      split at hu
      · rw [List.getElem?_drop] at hu
        have := hcell g rfl (i * size + j) u hu
        have hadd : (⟨g, 0, none⟩ : Addr).add (i * size + j) = ⟨g, i * size + j, none⟩ := by unfold Addr.add; split <;> simp_all
        rw [hadd] at this
        rw [Nat.zero_add]; exact this
      · cases hu

/-- the blocks between two marks -/
def Nw (lo hi k : Nat) : Prop := lo ≤ k ∧ k < hi
/-- the blocks from a mark on, but that of a slice's own -/
def Rw (lo : Nat) (w : World) (v : Value) (k : Nat) : Prop := lo ≤ k ∧ k < w.heap.size ∧ v.ownBlock ≠ some k

theorem _root_.Go.Proofs.Ytncmhenfgbcihab.Wk.frz {X : List Nat} {w w' : World} (h : Wk X w w') {c o : Nat} (hf : w.frozen? ⟨c, o, none⟩ = false) (hc : c < w.heap.size) (h2 : c ∉ X) : w'.frozen? ⟨c, o, none⟩ = false := (World.frozen?_of_block (a := ⟨c, o, none⟩) (h.block c hc h2)).trans hf
/-- a struct that was read; a list that was read -/
def RS {α : Type} (V : World → (Nat → Prop) → List Value → α → Prop) (lo : Nat) (x : α) (v : Value) (w : World) : Prop := ∃ cs, v = .agg cs.toArray ∧ V w (Nw lo w.heap.size) cs x
def RL {α : Type} (V : World → (Nat → Prop) → List Value → α → Prop) (size lo : Nat) (l : List α) (v : Value) (w : World) : Prop := SlV V size w (Nw lo w.heap.size) v l

/-- what is still to be read of a list -/
def Cont {α : Type} (p : P α) (m : Nat) (acc : List α) (bs : List UInt8) : Option (List α × List UInt8) := match rep p m bs with
  | none => none
  | some (l, r) => some (acc ++ l, r)
theorem cont_none {α : Type} {p : P α} {m : Nat} {acc : List α} {bs : List UInt8} (h : p bs = none) : Cont p (m + 1) acc bs = none := by
  unfold Cont; rw [rep, bind_none h]
theorem cont_some {α : Type} {p : P α} {m : Nat} {acc : List α} {bs r : List UInt8} {x : α} (h : p bs = some (x, r)) : Cont p (m + 1) acc bs = Cont p m (acc ++ [x]) r := by
  unfold Cont; rw [rep, bind_of h]
  cases hr : rep p m r with
  | none => rw [bind_none hr]
  | some y => obtain ⟨l, r'⟩ := y; rw [bind_of hr]; simp [ret]
theorem cont_zero {α : Type} (p : P α) (acc : List α) (bs : List UInt8) : Cont p 0 acc bs = some (acc, bs) := by simp [Cont, rep, ret]
theorem cont_start {α : Type} {p : P α} {bs rest : List UInt8} {n : Int} (h : rd bs = some (n, rest)) (hn : ¬ n < 0) : lstP p bs = Cont p n.toNat [] rest := by
  rw [lstP, bind_of h, if_neg hn]; unfold Cont
  cases rep p n.toNat rest with
  | none => rfl
  | some y => rfl
theorem lst_neg {α : Type} {p : P α} {bs rest : List UInt8} {n : Int} (h : rd bs = some (n, rest)) (hn : n < 0) : lstP p bs = none := by
  rw [lstP, bind_of h, if_pos hn]
theorem lst_none {α : Type} {p : P α} {bs : List UInt8} (h : rd bs = none) : lstP p bs = none := bind_none h
/-- a reader that takes eight bytes at least -/
def Eats {α : Type} (p : P α) : Prop := ∀ bs x r, p bs = some (x, r) → r.length + 8 ≤ bs.length
theorem rep_eats {α : Type} {p : P α} (hp : Eats p) : ∀ (n : Nat) bs l r, rep p n bs = some (l, r) → r.length + 8 * n ≤ bs.length := by
  intro n
  induction n with
  | zero => intro bs l r h; simp only [rep, ret] at h; injection h with h; injection h with _ h; subst h; omega
  | succ n ih =>
    intro bs l r h
    simp only [rep] at h
    obtain ⟨x, r1, h1, h2⟩ := Bytes.bind_some h
    obtain ⟨l2, r2, h3, h4⟩ := Bytes.bind_some h2
    simp only [ret] at h4
    injection h4 with h4; injection h4 with _ h4; subst h4
    have := hp _ _ _ h1
    have := ih _ _ _ h3
    omega
theorem lst_big {α : Type} {p : P α} (hp : Eats p) {bs rest : List UInt8} {n : Int} (h : rd bs = some (n, rest)) (hn : (rest.length : Int) / 8 < n) : lstP p bs = none := by
  rw [lstP, bind_of h, if_neg (by omega)]
  cases hr : rep p n.toNat rest with
  | none => rfl
  | some y =>
    obtain ⟨l, r⟩ := y
    have := rep_eats hp _ _ _ _ hr
    omega
theorem eats_rd : Eats rd := fun bs x r h => by
  obtain ⟨e, _⟩ := rd_wrote _ _ _ h
  rw [e, List.length_append, wide_len]; omega
theorem eats_of {α : Type} {p : P α} {e : α → List UInt8} {ok : α → Prop} (h : Wrote p e ok) (he : ∀ x, 8 ≤ (e x).length) : Eats p := fun bs x r hx => by
  obtain ⟨e1, _⟩ := h _ _ _ hx
  rw [e1, List.length_append]; have := he x; omega
theorem eats_ty : Eats tyP := eats_of ty_wrote (fun x => by simp [tyB, wide_len])
theorem eats_hd : Eats hdP := eats_of hd_wrote (fun x => by simp [hdB, wide_len])
theorem eats_ins : Eats insP := eats_of ins_wrote (fun x => by simp only [insB, List.length_append, wide_len]; omega)
theorem eats_cl : Eats clP := eats_of cl_wrote (fun x => by simp only [clB, List.length_append, wide_len]; omega)
theorem eats_me : Eats meP := eats_of me_wrote (fun x => by simp only [meB, tyB, List.length_append, wide_len]; omega)


theorem own_keep {w w' : World} {base : Nat} {T : TypeId} {size n b : Nat} {v : Value} {xs : List Value} (h : w.ownsRow base T size v n xs) (hk : Wk [b] w w') (hb : ∀ g, v.ownBlock = some g → g ≠ b) : w'.ownsRow base T size v n xs := by
  refine ⟨h.1, ?_⟩
  rcases h.2 with hn | ⟨g, cap, cur, rfl, hbg, hg, rest⟩
  · exact .inl hn
  · exact .inr ⟨g, cap, cur, rfl, hbg, by rw [hk.block g (Array.getElem?_eq_some_iff.1 hg).1 (by simp; exact hb g rfl)]; exact hg, rest⟩
theorem news_at (w : World) (cs : List Value) (t : TypeId) : ∀ j u, cs[j]? = some u → (w.alloc (.cells cs.toArray t)).cell? ((⟨w.heap.size, 0, none⟩ : Addr).add j) = some u :=
  World.news_of_block (cs := cs.toArray) (t := t) (fr := (0, 0)) (heap_alloc_new w _)

/-- an element behind those that were read -/
theorem item_added {α : Type} {V : World → (Nat → Prop) → List Value → α → Prop} {w wr w2 w3 : World} {B b g2 cap2 size : Nat} {T : TypeId} {r' : List UInt8} {v : Value} {xs cs : List Value} {acc : List α} {x : α} {o : Obj}
    (HK2 : Wk [b] w w2) (H2 : Rdr w2 B b r') (HO2 : w2.ownsRow w.heap.size T size v acc.length xs) (HW : Row V size wr (Rw w.heap.size wr v) xs acc) (HKc : Wk [b] wr w2) (hlt : b < w.heap.size) (hge : w.heap.size ≤ wr.heap.size) (hvr : ∀ g, v.ownBlock = some g → g < wr.heap.size)
    (HV : V w2 (Nw wr.heap.size w2.heap.size) cs x) (sV : Stays V) (hcs : cs.length = size)
    (hown : w3.ownsRow w.heap.size T size (.slice (some ⟨g2, 0, none⟩) (acc.length + 1) cap2) (acc.length + 1) (xs ++ cs)) (hgrow : (w2.alloc o).grownBy w3 v.ownBlock) (hat : v.ownBlock = some g2 ∨ g2 = (w2.alloc o).heap.size) :
    Wk [b] w w3 ∧ Rdr w3 B b r' ∧ w3.ownsRow w.heap.size T size (.slice (some ⟨g2, 0, none⟩) (acc.length + 1) cap2) (acc ++ [x]).length (xs ++ cs) ∧ Row V size w3 (Rw w.heap.size w3 (.slice (some ⟨g2, 0, none⟩) (acc.length + 1) cap2)) (xs ++ cs) (acc ++ [x]) := by
  have hs : (w2.alloc o).heap.size = w2.heap.size + 1 := by simp
  have h23 : w2.heap.size + 1 ≤ w3.heap.size := by rw [← hs]; exact hgrow.size
  have hr2 := HKc.size
  have hat' : v.ownBlock = some g2 ∨ g2 = w2.heap.size + 1 := by rw [hs] at hat; exact hat
  have hvlo : ∀ g, v.ownBlock = some g → w.heap.size ≤ g := fun g hg => (HO2.lt g hg).1
  have blk : ∀ k, k < w2.heap.size → v.ownBlock ≠ some k → w3.heap[k]? = w2.heap[k]? := fun k hk hn =>
    (hgrow.block k (by omega) (fun e => hn e.symm)).trans (heap_alloc_old w2 o hk)
  have HK23 : Wk (match v.ownBlock with | some g => [g] | none => []) w2 w3 := by
    refine ((Wk.refl _ w2).alloc o).trans (Wk.of_grown hgrow (fun k hk => ?_))
    rw [hk]; simp
  refine ⟨HK2.trans' HK23 (fun y hy => ?_), H2.next HK23 (fun y hy => ?_), by simpa using hown, Row.snoc (Row.stays sV (fun k hk => ?_) HW) hcs (sV _ _ _ _ _ _ (fun k hk => ?_) HV)⟩
  · cases hv : v.ownBlock with
    | none => rw [hv] at hy; simp at hy
    | some g => rw [hv] at hy; simp at hy; subst hy; exact .inr (hvlo _ hv)
  · cases hv : v.ownBlock with
    | none => rw [hv] at hy; simp at hy
    | some g => rw [hv] at hy; simp at hy; subst hy; have := hvlo _ hv; omega
  · obtain ⟨k1, k2, k3⟩ := hk
    refine ⟨⟨k1, by omega, ?_⟩, (blk k (by omega) k3).trans (HKc.block k k2 (by simp; omega))⟩
    simp only [Value.ownBlock]
    rcases hat' with e | e
    · rw [e] at k3; exact k3
    · intro e2; injection e2 with e2; omega
  · obtain ⟨k1, k2⟩ := hk
    have hvk : v.ownBlock ≠ some k := fun e => by have := hvr k e; omega
    refine ⟨⟨by omega, by omega, ?_⟩, blk k k2 hvk⟩
    simp only [Value.ownBlock]
    rcases hat' with e | e
    · rw [e] at hvk; exact hvk
    · intro e2; injection e2 with e2; omega

set_option maxHeartbeats 1000000 in
theorem numP (B b : Nat) (bs : List UInt8) (w : World) (h : Rdr w B b bs) :
    Calls Try.prog 81 #[.pointer (some ⟨b, 0, none⟩)] w (Rp (rd bs) RInt B b w) := by
  have hR := Lib.hid h
  clear h
  go_enter Try.func81, Try.ntmps81
  go_wp2_with fail
  refine (wideP B b bs _ hR.out).mono ?_
  rintro e w1 ⟨hk, hp⟩
  have HK := Lib.hid hk
  clear hk
  obtain ⟨r, HR⟩ : ∃ r, Hid (rd bs = r) := ⟨_, rfl⟩
  rw [HR.out] at hp
  rcases r with _ | ⟨x, rest⟩
  · subst hp
    unfold shortE
    go_wp2_with fail
    refine And.intro rfl ?_
    show Rp _ _ _ _ _ _ _
    unfold Rp
    rw [HR.out]
    exact ⟨HK.out, rfl⟩
  · obtain ⟨v, rfl, rfl, hR1⟩ := hp
    have H1 := Lib.hid hR1
    clear hR1
    go_wp2_with fail
    go_ret
    unfold Rp
    rw [HR.out]
    exact ⟨HK.out, _, rfl, rfl, H1.out⟩

/-! ### a run of reads: what is read, and what is left; none where bytes are short -/
set_option maxRecDepth 100000 in
set_option maxHeartbeats 2000000 in
theorem kindP (B b : Nat) (bs : List UInt8) (w : World) (h : Rdr w B b bs) :
    Calls Try.prog 83 #[.pointer (some ⟨b, 0, none⟩)] w (Rp (tyP bs) (RS VTy w.heap.size) B b w) := by
  have hR := Lib.hid h
  have hlt := h.lt
  clear h
  go_enter Try.func83, Try.ntmps83
  go_wp2_with fail
  refine (numP B b bs _ (hR.out.alloc _)).mono ?_
  rintro e w1 ⟨hk, hp⟩
  have hk' : Wk [b] w w1 := ((Wk.refl _ _).alloc _).trans hk
  have y0 := hk.cell (c := w.heap.size) (o := 0) (v := .int .i64 0) (by go_simp) (by simp; omega)
  have y1 := hk.cell (c := w.heap.size) (o := 1) (v := .int .i64 0) (by go_simp) (by simp; omega)
  have f0 := hk.frz (c := w.heap.size) (o := 0) (by go_simp) (by simp) (by simp; omega)
  have f1 := hk.frz (c := w.heap.size) (o := 1) (by go_simp) (by simp) (by simp; omega)
  have HK := Lib.hid hk'
  have hne : w.heap.size ≠ b := by omega
  clear hk hk'
  obtain ⟨r, HR⟩ : ∃ r, Hid (rd bs = r) := ⟨_, rfl⟩
  rw [HR.out] at hp
  rcases r with _ | ⟨x, rest⟩
  · have HQ : Hid (tyP bs = none) := bind_none HR.out
    subst hp
    unfold shortE
    go_wp2_with fail
    refine And.intro rfl ?_
    show Rp _ _ _ _ _ _ _
    unfold Rp
    rw [HQ.out]
    exact ⟨HK.out, rfl⟩
  · obtain ⟨v, rfl, rfl, hR1⟩ := hp
    have H1 := Lib.hid hR1
    have HQ : Hid (tyP bs = bind rd (fun c => ret ⟨x, c⟩) rest) := bind_of HR.out
    have okx := Lib.hid (rd_wrote _ _ _ HR.out).2
    clear hR1
    go_wp2_with fail
    refine (numP B b rest _ H1.out).mono ?_
    rintro e w2 ⟨hk, hp⟩
    have y0' := hk.cell y0 (by simp; omega)
    have y1' := hk.cell y1 (by simp; omega)
    have f0' := hk.frz f0 (lt_cell' y0) (by simp; omega)
    have f1' := hk.frz f1 (lt_cell' y0) (by simp; omega)
    have HK2 := Lib.hid (HK.out.trans hk)
    clear hk y0 y1 f0 f1
    obtain ⟨r2, HR2⟩ : ∃ r2, Hid (rd rest = r2) := ⟨_, rfl⟩
    rw [HR2.out] at hp
    rcases r2 with _ | ⟨x2, rest2⟩
    · have HQ2 : Hid (tyP bs = none) := HQ.out.trans (bind_none HR2.out)
      subst hp
      unfold shortE
      go_wp2_with fail
      refine And.intro rfl ?_
      show Rp _ _ _ _ _ _ _
      unfold Rp
      rw [HQ2.out]
      exact ⟨HK2.out, rfl⟩
    · obtain ⟨v, rfl, rfl, hR1⟩ := hp
      have H2 := Lib.hid hR1
      have HQ2 : Hid (tyP bs = some (⟨x, x2⟩, rest2)) := HQ.out.trans (bind_of HR2.out)
      have okx2 := Lib.hid (rd_wrote _ _ _ HR2.out).2
      clear hR1
      go_wp2_with fail
      refine bodyPost_ret (v := .agg #[.int .i64 x, .int .i64 x2]) (by simp [results, Try.results83, go_sem]; go_simp) rfl ?_
      unfold Rp
      rw [HQ2.out]
      have hlt2 := HK2.out.size
      refine ⟨((HK2.out.setCell (.inr (Nat.le_refl _)) _).setCell (.inr (Nat.le_refl _)) _), _, rfl, ⟨_, rfl, rfl, okx.out, okx2.out⟩, H2.out.next (X := [w.heap.size]) (((Wk.refl _ _).setCell (.inl (by simp)) _).setCell (.inl (by simp)) _) (by simp; exact hlt)⟩
end Wire
end Go.Proofs.Ytncmhenfgbcihab
