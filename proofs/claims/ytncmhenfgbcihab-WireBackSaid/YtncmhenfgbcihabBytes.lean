/- Files as bytes, plain: writing, reading, and that the one undoes the other. -/
import Derived.Test.YtncmhenfgbcihabRd
namespace Go.Proofs.Ytncmhenfgbcihab
open Go.RowKit
set_option linter.unusedSimpArgs false
set_option linter.unusedVariables false
namespace Bytes
open D Num

/-! ### numbers -/
/-- the k lowest bytes of a number, the highest one first -/
def be : Nat → Int → List UInt8
  | 0, _ => []
  | k + 1, n => be k (n / 256) ++ [UInt8.ofNat (n % 256).toNat]
def natv (bs : List UInt8) : Int := bs.foldl (fun n c => n * 256 + c.toNat) 0
/-- a number of 64 bits -/
def wide (n : Int) : List UInt8 := be 8 n
def val (bs : List UInt8) : Int := wrap64 (natv bs)

theorem be_len (k : Nat) : ∀ n, (be k n).length = k := by
  induction k with
  | zero => intro n; rfl
  | succ k ih => intro n; simp [be, ih]
theorem wide_len (n : Int) : (wide n).length = 8 := be_len 8 n
theorem natv_snoc (l : List UInt8) (c : UInt8) : natv (l ++ [c]) = natv l * 256 + c.toNat := by simp [natv]
theorem byte_nat (n : Int) : ((UInt8.ofNat (n % 256).toNat).toNat : Int) = n % 256 := by
  rw [UInt8.toNat_ofNat_of_lt' (by show _ < 256; omega)]; omega
theorem byte_of {n : Int} {c : UInt8} (h : n % 256 = c.toNat) : UInt8.ofNat (n % 256).toNat = c := by
  apply UInt8.toNat_inj.1
  have := byte_nat n
  omega
theorem natv_be (k : Nat) : ∀ n, natv (be k n) = n % 256 ^ k := by
  induction k with
  | zero => intro n; simp [be, natv]
  | succ k ih =>
    intro n
    rw [be, natv_snoc, ih, byte_nat]
    have hpos : (0 : Int) < 256 ^ k := Int.pow_pos (by omega)
    have h1 := Int.emod_add_mul_ediv (n / 256) (256 ^ k)
    have h2 := Int.emod_nonneg (n / 256) (Int.ne_of_gt hpos)
    have h3 := Int.emod_lt_of_pos (n / 256) hpos
    generalize (n / 256) % 256 ^ k = r at *
    generalize (n / 256) / 256 ^ k = q at *
    have e : n = (r * 256 + n % 256) + (256 ^ (k + 1)) * q := by
      rw [Int.pow_succ, Int.mul_comm (256 ^ k) 256, Int.mul_assoc]
      omega
    have e2 : n % 256 ^ (k + 1) = (r * 256 + n % 256) % 256 ^ (k + 1) := by
      conv => lhs; rw [e]
      rw [Int.add_mul_emod_self_left]
    have e3 : (256 : Int) ^ (k + 1) = 256 ^ k * 256 := Int.pow_succ _ _
    rw [e2]
    exact (Int.emod_eq_of_lt (a := r * 256 + n % 256) (by omega) (by omega)).symm
theorem be_natv : ∀ (k : Nat) (bs : List UInt8), bs.length = k → be k (natv bs) = bs := by
  intro k
  induction k with
  | zero => intro bs h; rw [List.length_eq_zero_iff] at h; subst h; rfl
  | succ k ih =>
    intro bs h
    rcases List.eq_nil_or_concat bs with e | ⟨l, c, e⟩
    · subst e; simp at h
    · subst e
      rw [List.concat_eq_append] at h ⊢
      have hl : l.length = k := by simpa using h
      have hc := c.toNat_lt
      rw [be, natv_snoc, show (natv l * 256 + (c.toNat : Int)) / 256 = natv l by omega, ih l hl, byte_of (c := c) (by omega)]
theorem be_emod (k : Nat) (n : Int) : be k (n % 256 ^ k) = be k n := by
  rw [← natv_be, be_natv k _ (be_len k n)]
theorem p8 : (256 : Int) ^ 8 = 18446744073709551616 := by decide
theorem wrap_emod (n : Int) : wrap64 n % 18446744073709551616 = n % 18446744073709551616 := by unfold wrap64; omega
theorem val_wide {n : Int} (h : Ok n) : val (wide n) = n := by
  rw [val, wide, natv_be, p8]
  unfold Ok at h
  unfold wrap64
  omega
theorem wide_val {bs : List UInt8} (h : bs.length = 8) : wide (val bs) = bs := by
  rw [wide, ← be_emod, p8, val, wrap_emod, ← p8, be_emod, be_natv 8 bs h]
theorem val_ok (bs : List UInt8) : Ok (val bs) := wrap64_ok _
theorem wrap_in (a c : Int) : wrap64 (wrap64 a * 256 + c) = wrap64 (a * 256 + c) := by unfold wrap64; omega
theorem val_snoc (l : List UInt8) (c : UInt8) : val (l ++ [c]) = wrap64 (val l * 256 + c.toNat) := by rw [val, val, natv_snoc, wrap_in]
theorem wide_inj {a b : Int} (ha : Ok a) (hb : Ok b) (h : wide a = wide b) : a = b := by rw [← val_wide ha, ← val_wide hb, h]

/-! ### writing -/
def lst {α : Type} (e : α → List UInt8) (l : List α) : List UInt8 := wide l.length ++ l.flatMap e
def tyB (t : Ty) : List UInt8 := wide t.kind ++ wide t.cls
def clB (c : Cls) : List UInt8 := wide c.sup ++ lst tyB c.fields
def hdB (h : Hd) : List UInt8 := wide h.lo ++ (wide h.hi ++ (wide h.go ++ wide h.cls))
def insB (i : Ins) : List UInt8 := wide i.op ++ (wide i.a ++ (wide i.b ++ (wide i.c ++ (wide i.n ++ lst wide i.args))))
def meB (m : Me) : List UInt8 := lst tyB m.params ++ (tyB m.ret ++ (wide m.stack ++ (wide m.locals ++ (wide m.regs ++ (lst insB m.code ++ lst hdB m.handlers)))))
def fiB (f : Fi) : List UInt8 := lst clB f.classes ++ lst meB f.methods

/-! ### what a world holds is within 64 bits, and lists are no longer than that -/
def LOk {α : Type} (p : α → Prop) (l : List α) : Prop := l.length ≤ 9223372036854775807 ∧ ∀ x ∈ l, p x
def TyOk (t : Ty) : Prop := Ok t.kind ∧ Ok t.cls
def ClOk (c : Cls) : Prop := Ok c.sup ∧ LOk TyOk c.fields
def HdOk (h : Hd) : Prop := Ok h.lo ∧ Ok h.hi ∧ Ok h.go ∧ Ok h.cls
def InsOk (i : Ins) : Prop := (Ok i.op ∧ Ok i.a ∧ Ok i.b ∧ Ok i.c ∧ Ok i.n) ∧ LOk Ok i.args
def MeOk (m : Me) : Prop := LOk TyOk m.params ∧ TyOk m.ret ∧ (Ok m.stack ∧ Ok m.locals ∧ Ok m.regs) ∧ LOk InsOk m.code ∧ LOk HdOk m.handlers
def FiOk (f : Fi) : Prop := LOk ClOk f.classes ∧ LOk MeOk f.methods

/-! ### reading -/
abbrev P (α : Type) := List UInt8 → Option (α × List UInt8)
def bind {α β : Type} (p : P α) (q : α → P β) : P β := fun bs => match p bs with | none => none | some (x, r) => q x r
def ret {α : Type} (x : α) : P α := fun bs => some (x, bs)
def rd : P Int := fun bs => if bs.length < 8 then none else some (val (bs.take 8), bs.drop 8)
def rep {α : Type} (p : P α) : Nat → P (List α)
  | 0 => ret []
  | n + 1 => bind p fun x => bind (rep p n) fun l => ret (x :: l)
/-- a list: its length must not be below 0 -/
def lstP {α : Type} (p : P α) : P (List α) := bind rd fun n => if n < 0 then fun _ => none else rep p n.toNat
def tyP : P Ty := bind rd fun k => bind rd fun c => ret ⟨k, c⟩
def clP : P Cls := bind rd fun s => bind (lstP tyP) fun l => ret ⟨s, l⟩
def hdP : P Hd := bind rd fun a => bind rd fun b => bind rd fun c => bind rd fun d => ret ⟨a, b, c, d⟩
def insP : P Ins := bind rd fun o => bind rd fun a => bind rd fun b => bind rd fun c => bind rd fun n => bind (lstP rd) fun l => ret ⟨o, a, b, c, n, l⟩
def meP : P Me := bind (lstP tyP) fun p => bind tyP fun r => bind rd fun s => bind rd fun l => bind rd fun g => bind (lstP insP) fun c => bind (lstP hdP) fun h => ret ⟨p, r, s, l, g, c, h⟩
def fiP : P Fi := bind (lstP clP) fun c => bind (lstP meP) fun m => ret ⟨c, m⟩

/-- a reader reads what a writer has written -/
def Reads {α : Type} (p : P α) (e : α → List UInt8) (ok : α → Prop) : Prop := ∀ x rest, ok x → p (e x ++ rest) = some (x, rest)
/-- what it has read is written so -/
def Wrote {α : Type} (p : P α) (e : α → List UInt8) (ok : α → Prop) : Prop := ∀ bs x rest, p bs = some (x, rest) → bs = e x ++ rest ∧ ok x

theorem rd_reads : Reads rd wide Ok := fun n rest h => by
  have hl := wide_len n
  rw [rd, if_neg (by simp [hl]), List.take_left' hl, List.drop_left' hl, val_wide h]
theorem rd_wrote : Wrote rd wide Ok := fun bs n rest h => by
  unfold rd at h
  split at h
  · simp at h
  · injection h with h; injection h with h1 h2
    subst h1; subst h2
    exact ⟨by rw [wide_val (by simp; omega), List.take_append_drop], val_ok _⟩
theorem bind_some {α β : Type} {p : P α} {q : α → P β} {bs : List UInt8} {y : β} {rest : List UInt8} (h : bind p q bs = some (y, rest)) : ∃ x r, p bs = some (x, r) ∧ q x r = some (y, rest) := by
  unfold bind at h
  cases hp : p bs with
  | none => rw [hp] at h; simp at h
  | some x => obtain ⟨x, r⟩ := x; rw [hp] at h; exact ⟨x, r, rfl, h⟩
theorem bind_of {α β : Type} {p : P α} {q : α → P β} {bs : List UInt8} {x : α} {r : List UInt8} (h : p bs = some (x, r)) : bind p q bs = q x r := by
  unfold bind; rw [h]
theorem bind_none {α β : Type} {p : P α} {q : α → P β} {bs : List UInt8} (h : p bs = none) : bind p q bs = none := by
  unfold bind; rw [h]
theorem rep_reads {α : Type} {p : P α} {e : α → List UInt8} {ok : α → Prop} (h : Reads p e ok) : ∀ (l : List α) rest, (∀ x ∈ l, ok x) → rep p l.length (l.flatMap e ++ rest) = some (l, rest) := by
  intro l
  induction l with
  | nil => intro rest _; rfl
  | cons a l ih =>
    intro rest hl
    simp only [List.length_cons, rep, List.flatMap_cons, List.append_assoc]
    rw [bind_of (h a _ (hl a (by simp))), bind_of (ih rest (fun x hx => hl x (by simp [hx])))]; rfl
theorem rep_wrote {α : Type} {p : P α} {e : α → List UInt8} {ok : α → Prop} (h : Wrote p e ok) : ∀ (n : Nat) bs (l : List α) rest, rep p n bs = some (l, rest) → bs = l.flatMap e ++ rest ∧ l.length = n ∧ ∀ x ∈ l, ok x := by
  intro n
  induction n with
  | zero => intro bs l rest hr; simp only [rep, ret] at hr; injection hr with hr; injection hr with h1 h2; subst h1; subst h2; simp
  | succ n ih =>
    intro bs l rest hr
    simp only [rep] at hr
    obtain ⟨x, r, h1, h2⟩ := bind_some hr
    obtain ⟨l', r', h3, h4⟩ := bind_some h2
    simp only [ret] at h4
    injection h4 with h4; injection h4 with h4 h5; subst h4; subst h5
    obtain ⟨e1, o1⟩ := h _ _ _ h1
    obtain ⟨e2, l2, o2⟩ := ih _ _ _ h3
    refine ⟨by rw [e1, e2]; simp, by simp [l2], fun y hy => ?_⟩
    rcases List.mem_cons.1 hy with hy | hy
    · subst hy; exact o1
    · exact o2 y hy
theorem lst_reads {α : Type} {p : P α} {e : α → List UInt8} {ok : α → Prop} (h : Reads p e ok) : Reads (lstP p) (lst e) (LOk ok) := fun l rest hl => by
  obtain ⟨h1, h2⟩ := hl
  rw [lst, lstP, List.append_assoc, bind_of (rd_reads (l.length : Int) _ (by unfold Ok; omega)), if_neg (by omega), Int.toNat_natCast]
  exact rep_reads h l rest h2
theorem lst_wrote {α : Type} {p : P α} {e : α → List UInt8} {ok : α → Prop} (h : Wrote p e ok) : Wrote (lstP p) (lst e) (LOk ok) := fun bs l rest hl => by
  obtain ⟨n, r, h1, h2⟩ := bind_some hl
  obtain ⟨e1, o1⟩ := rd_wrote _ _ _ h1
  split at h2
  · simp at h2
  · obtain ⟨e2, l2, o2⟩ := rep_wrote h _ _ _ _ h2
    unfold Ok at o1
    have : (l.length : Int) = n := by omega
    exact ⟨by rw [e1, e2, lst, this, List.append_assoc], by omega, o2⟩

theorem ty_reads : Reads tyP tyB TyOk := fun t rest h => by
  rw [tyP, tyB, List.append_assoc, bind_of (rd_reads _ _ h.1), bind_of (rd_reads _ _ h.2)]; rfl
theorem ty_wrote : Wrote tyP tyB TyOk := fun bs t rest h => by
  obtain ⟨_, _, h1, h⟩ := bind_some h
  obtain ⟨_, _, h2, h⟩ := bind_some h
  obtain ⟨e1, o1⟩ := rd_wrote _ _ _ h1
  obtain ⟨e2, o2⟩ := rd_wrote _ _ _ h2
  simp only [ret] at h; injection h with h; injection h with h h'; subst h; subst h'
  exact ⟨by rw [e1, e2, tyB, List.append_assoc], o1, o2⟩
theorem cl_reads : Reads clP clB ClOk := fun t rest h => by
  rw [clP, clB, List.append_assoc, bind_of (rd_reads _ _ h.1), bind_of (lst_reads ty_reads _ _ h.2)]; rfl
theorem cl_wrote : Wrote clP clB ClOk := fun bs t rest h => by
  obtain ⟨_, _, h1, h⟩ := bind_some h
  obtain ⟨_, _, h2, h⟩ := bind_some h
  obtain ⟨e1, o1⟩ := rd_wrote _ _ _ h1
  obtain ⟨e2, o2⟩ := lst_wrote ty_wrote _ _ _ h2
  simp only [ret] at h; injection h with h; injection h with h h'; subst h; subst h'
  exact ⟨by rw [e1, e2, clB, List.append_assoc], o1, o2⟩
theorem hd_reads : Reads hdP hdB HdOk := fun t rest h => by
  obtain ⟨h1, h2, h3, h4⟩ := h
  simp only [hdP, hdB, List.append_assoc]
  rw [bind_of (rd_reads _ _ h1), bind_of (rd_reads _ _ h2), bind_of (rd_reads _ _ h3), bind_of (rd_reads _ _ h4)]; rfl
theorem hd_wrote : Wrote hdP hdB HdOk := fun bs t rest h => by
  obtain ⟨_, _, h1, h⟩ := bind_some h
  obtain ⟨_, _, h2, h⟩ := bind_some h
  obtain ⟨_, _, h3, h⟩ := bind_some h
  obtain ⟨_, _, h4, h⟩ := bind_some h
  obtain ⟨e1, o1⟩ := rd_wrote _ _ _ h1
  obtain ⟨e2, o2⟩ := rd_wrote _ _ _ h2
  obtain ⟨e3, o3⟩ := rd_wrote _ _ _ h3
  obtain ⟨e4, o4⟩ := rd_wrote _ _ _ h4
  simp only [ret] at h; injection h with h; injection h with h h'; subst h; subst h'
  exact ⟨by simp only [e1, e2, e3, e4, hdB, List.append_assoc], o1, o2, o3, o4⟩
theorem ins_reads : Reads insP insB InsOk := fun t rest h => by
  obtain ⟨⟨h1, h2, h3, h4, h5⟩, h6⟩ := h
  simp only [insP, insB, List.append_assoc]
  rw [bind_of (rd_reads _ _ h1), bind_of (rd_reads _ _ h2), bind_of (rd_reads _ _ h3), bind_of (rd_reads _ _ h4), bind_of (rd_reads _ _ h5), bind_of (lst_reads rd_reads _ _ h6)]; rfl
theorem ins_wrote : Wrote insP insB InsOk := fun bs t rest h => by
  obtain ⟨_, _, h1, h⟩ := bind_some h
  obtain ⟨_, _, h2, h⟩ := bind_some h
  obtain ⟨_, _, h3, h⟩ := bind_some h
  obtain ⟨_, _, h4, h⟩ := bind_some h
  obtain ⟨_, _, h5, h⟩ := bind_some h
  obtain ⟨_, _, h6, h⟩ := bind_some h
  obtain ⟨e1, o1⟩ := rd_wrote _ _ _ h1
  obtain ⟨e2, o2⟩ := rd_wrote _ _ _ h2
  obtain ⟨e3, o3⟩ := rd_wrote _ _ _ h3
  obtain ⟨e4, o4⟩ := rd_wrote _ _ _ h4
  obtain ⟨e5, o5⟩ := rd_wrote _ _ _ h5
  obtain ⟨e6, o6⟩ := lst_wrote rd_wrote _ _ _ h6
  simp only [ret] at h; injection h with h; injection h with h h'; subst h; subst h'
  exact ⟨by simp only [e1, e2, e3, e4, e5, e6, insB, List.append_assoc], ⟨o1, o2, o3, o4, o5⟩, o6⟩
theorem me_reads : Reads meP meB MeOk := fun t rest h => by
  obtain ⟨h1, h2, ⟨h3, h4, h5⟩, h6, h7⟩ := h
  simp only [meP, meB, List.append_assoc]
  rw [bind_of (lst_reads ty_reads _ _ h1), bind_of (ty_reads _ _ h2), bind_of (rd_reads _ _ h3), bind_of (rd_reads _ _ h4), bind_of (rd_reads _ _ h5), bind_of (lst_reads ins_reads _ _ h6), bind_of (lst_reads hd_reads _ _ h7)]; rfl
theorem me_wrote : Wrote meP meB MeOk := fun bs t rest h => by
  obtain ⟨_, _, h1, h⟩ := bind_some h
  obtain ⟨_, _, h2, h⟩ := bind_some h
  obtain ⟨_, _, h3, h⟩ := bind_some h
  obtain ⟨_, _, h4, h⟩ := bind_some h
  obtain ⟨_, _, h5, h⟩ := bind_some h
  obtain ⟨_, _, h6, h⟩ := bind_some h
  obtain ⟨_, _, h7, h⟩ := bind_some h
  obtain ⟨e1, o1⟩ := lst_wrote ty_wrote _ _ _ h1
  obtain ⟨e2, o2⟩ := ty_wrote _ _ _ h2
  obtain ⟨e3, o3⟩ := rd_wrote _ _ _ h3
  obtain ⟨e4, o4⟩ := rd_wrote _ _ _ h4
  obtain ⟨e5, o5⟩ := rd_wrote _ _ _ h5
  obtain ⟨e6, o6⟩ := lst_wrote ins_wrote _ _ _ h6
  obtain ⟨e7, o7⟩ := lst_wrote hd_wrote _ _ _ h7
  simp only [ret] at h; injection h with h; injection h with h h'; subst h; subst h'
  exact ⟨by simp only [e1, e2, e3, e4, e5, e6, e7, meB, List.append_assoc], o1, o2, ⟨o3, o4, o5⟩, o6, o7⟩
theorem fi_reads : Reads fiP fiB FiOk := fun t rest h => by
  obtain ⟨h1, h2⟩ := h
  simp only [fiP, fiB, List.append_assoc]
  rw [bind_of (lst_reads cl_reads _ _ h1), bind_of (lst_reads me_reads _ _ h2)]; rfl
theorem fi_wrote : Wrote fiP fiB FiOk := fun bs t rest h => by
  obtain ⟨_, _, h1, h⟩ := bind_some h
  obtain ⟨_, _, h2, h⟩ := bind_some h
  obtain ⟨e1, o1⟩ := lst_wrote cl_wrote _ _ _ h1
  obtain ⟨e2, o2⟩ := lst_wrote me_wrote _ _ _ h2
  simp only [ret] at h; injection h with h; injection h with h h'; subst h; subst h'
  exact ⟨by simp only [e1, e2, fiB, List.append_assoc], o1, o2⟩

/-! ### the laws -/
theorem fiB_inj {a b : Fi} (ha : FiOk a) (hb : FiOk b) (h : fiB a = fiB b) : a = b := by
  have h1 := fi_reads a [] ha
  have h2 := fi_reads b [] hb
  rw [h, h2] at h1
  injection h1 with h1; injection h1 with h1 _; exact h1.symm
/-- what is cut off is not read -/
theorem no_cut {f : Fi} (hf : FiOk f) {n : Nat} (hn : n < (fiB f).length) : ∀ g, fiP ((fiB f).take n) ≠ some (g, []) := by
  intro g hg
  obtain ⟨e1, o1⟩ := fi_wrote _ _ _ hg
  rw [List.append_nil] at e1
  have h1 := fi_reads f [] hf
  have h2 := fi_reads g ((fiB f).drop n) o1
  rw [← e1, List.take_append_drop] at h2
  rw [List.append_nil, h2] at h1
  injection h1 with h1; injection h1 with _ h1
  have := congrArg List.length h1
  simp at this
  omega
end Bytes
end Go.Proofs.Ytncmhenfgbcihab
