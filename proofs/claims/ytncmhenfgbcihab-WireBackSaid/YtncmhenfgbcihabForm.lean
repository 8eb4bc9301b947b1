/- Files, plain: which may be, on a stack and on registers: one spelling for the program and the reference. -/
import Derived.Test.YtncmhenfgbcihabHier
namespace Go.Proofs.Ytncmhenfgbcihab
open Go.RowKit
namespace Form
open D Num

/-- how many slots types take -/
def slots : List Ty → Nat
  | [] => 0
  | t :: l => (if t.kind = 2 then 2 else 1) + slots l
theorem slots_snoc (l : List Ty) (t : Ty) : slots (l ++ [t]) = slots l + (if t.kind = 2 then 2 else 1) := by
  induction l with
  | nil => simp [slots]
  | cons a l ih => simp only [List.cons_append, slots, ih]; omega
theorem slots_take {l : List Ty} {k : Nat} (h : k < l.length) : slots (l.take (k + 1)) = slots (l.take k) + (if l[k].kind = 2 then 2 else 1) := by
  rw [List.take_succ_eq_append_getElem h, slots_snoc]
theorem slots_le (l : List Ty) : slots l ≤ 2 * l.length := by
  induction l with
  | nil => simp [slots]
  | cons a l ih => simp only [slots, List.length_cons]; split <;> omega
theorem slots_ge (l : List Ty) : l.length ≤ slots l := by
  induction l with
  | nil => simp [slots]
  | cons a l ih => simp only [slots, List.length_cons]; split <;> omega

/-- how many slots one of a kind takes -/
def wide (k : Int) : Int := if k = 2 then 2 else 1

def rng (n lo hi : Int) : Bool := decide (lo ≤ n ∧ n < hi)

/-- how many fields of its own a class has -/
def nf (l : List Cls) (c : Int) : Int := (Hier.at' l c.toNat).fields.length

/-- a handler -/
def hd (nc ncode : Int) (h : Hd) : Bool := decide (0 ≤ h.lo ∧ h.lo < h.hi ∧ h.hi ≤ ncode) && rng h.go 0 ncode && rng h.cls 0 nc
def ret (nc : Int) (t : Ty) : Bool := decide (t.kind = 0 ∧ t.cls = 0) || Hier.ty nc t

/-- what both forms have in common of a method -/
def head (nc : Int) (m : Me) (most : Int) : Bool :=
  m.params.all (Hier.ty nc) && m.handlers.all (hd nc m.code.length) && decide (m.params.length ≤ 4) && ret nc m.ret && rng m.code.length 1 (most + 1) && decide (m.handlers.length ≤ 8)

/-! ### on a stack -/
def sa (cl : List Cls) (nm ncode locals : Int) (i : Ins) : Bool :=
  if i.op = 4 ∨ i.op = 5 then rng i.a 0 (locals + 1 - wide i.b)
  else if i.op = 6 ∨ i.op = 7 then rng i.a 1 9
  else if i.op = 11 ∨ i.op = 12 ∨ i.op = 13 then rng i.a 0 ncode
  else if i.op = 14 ∨ i.op = 15 ∨ i.op = 16 ∨ i.op = 17 ∨ i.op = 18 then rng i.a 0 cl.length
  else if i.op = 19 then rng i.a 0 nm
  else if i.op = 24 then rng i.a 1 3
  else if 1 ≤ i.op ∧ i.op ≤ 25 then decide (i.a = 0)
  else false
def sb (cl : List Cls) (i : Ins) : Bool :=
  if i.op = 4 ∨ i.op = 5 then rng i.b 1 4
  else if i.op = 12 then rng i.b 1 5
  else if i.op = 15 ∨ i.op = 16 then rng i.a 0 cl.length && rng i.b 0 (nf cl i.a)
  else decide (i.b = 0)
def sn (i : Ins) : Bool :=
  if i.op = 1 then decide (wrap32 i.n = i.n) else if i.op = 2 then true else decide (i.n = 0)
def sins (cl : List Cls) (nm ncode locals : Int) (i : Ins) : Bool :=
  sa cl nm ncode locals i && sb cl i && sn i && decide (i.c = 0) && decide (i.args.length = 0)

def sme (f : Fi) (m : Me) : Bool :=
  head f.classes.length m 400 && decide (m.regs = 0) && rng m.stack 0 31 && rng m.locals (slots m.params) 61 && m.code.all (sins f.classes f.methods.length m.code.length m.locals)
def smay (f : Fi) : Bool := Hier.may f.classes && rng f.methods.length 1 9 && f.methods.all (sme f)

/-! ### how 'head' is come to -/
theorem head_param {nc : Int} {m : Me} {most : Int} {k : Nat} (h : k < m.params.length) (hf : Hier.ty nc m.params[k] = false) : head nc m most = false := by
  have : m.params.all (Hier.ty nc) = false := by rw [List.all_eq_false]; exact ⟨_, List.getElem_mem h, by rw [hf]; simp⟩
  simp [head, this]
theorem head_hd {nc : Int} {m : Me} {most : Int} {k : Nat} (h : k < m.handlers.length) (hf : hd nc m.code.length m.handlers[k] = false) : head nc m most = false := by
  have : m.handlers.all (hd nc m.code.length) = false := by rw [List.all_eq_false]; exact ⟨_, List.getElem_mem h, by rw [hf]; simp⟩
  simp [head, this]
theorem all_of {α : Type} {l : List α} {p : α → Bool} (h : ∀ j (hj : j < l.length), p l[j] = true) : l.all p = true := by
  rw [List.all_eq_true]
  intro x hx
  obtain ⟨j, hj, rfl⟩ := List.getElem_of_mem hx
  exact h j hj
theorem all_not {α : Type} {l : List α} {p : α → Bool} {k : Nat} (h : k < l.length) (hf : p l[k] = false) : l.all p = false := by
  rw [List.all_eq_false]; exact ⟨_, List.getElem_mem h, by rw [hf]; simp⟩
theorem all_step {α : Type} {l : List α} {p : α → Bool} {k : Nat} (hall : ∀ j (h : j < l.length), j < k → p l[j] = true) (hlt : k < l.length) (hc : p l[k] = true) : ∀ j (h : j < l.length), j < k + 1 → p l[j] = true := fun j h hj => by
  by_cases e : j = k
  · subst e; exact hc
  · exact hall j h (by omega)
theorem head_rest {nc : Int} {m : Me} {most : Int} (h1 : m.params.all (Hier.ty nc) = true) (h2 : m.handlers.all (hd nc m.code.length) = true) :
    head nc m most = (decide (m.params.length ≤ 4) && ret nc m.ret && rng m.code.length 1 (most + 1) && decide (m.handlers.length ≤ 8)) := by
  simp only [head, h1, h2, Bool.true_and]
end Form
end Go.Proofs.Ytncmhenfgbcihab
