/- Files on registers, plain: which instruction may be: as rform looks at it, and as its reference. -/
import Derived.Test.YtncmhenfgbcihabForm
namespace Go.Proofs.Ytncmhenfgbcihab
open Go.RowKit
namespace Rform
open D Num Go.Proofs.Ytncmhenfgbcihab.Form

/-- may a number be a register, of a kind? -/
def reg (regs n kind : Int) : Bool := rng n 0 (regs + 1 - wide kind)
/-- a field's kind -/
def fk (cl : List Cls) (c n : Int) : Int := ((Hier.at' cl c.toNat).fields.getD n.toNat ⟨0, 0⟩).kind

/-- registers of the kinds of parameters -/
def regsOk (regs : Int) (ps : List Ty) (xs : List Int) : Bool := (List.range ps.length).all fun k => reg regs (xs.getD k 0) (ps.getD k ⟨0, 0⟩).kind

def mAt (ms : List Me) (k : Int) : List Ty := ((ms.map (·.params)).getD k.toNat [])

/-- what N must be -/
def num (i : Ins) : Bool :=
  if i.op = 1 then decide (wrap32 i.n = i.n) else if i.op = 2 then true else if i.op = 5 ∨ i.op = 6 then rng i.n 1 9
  else if i.op = 14 ∨ i.op = 15 then true else decide (i.n = 0)

def body (cl : List Cls) (ms : List Me) (ncode regs retk : Int) (i : Ins) : Bool :=
  if i.op = 1 then reg regs i.a 1 && decide (i.b = 0) && decide (i.c = 0)
  else if i.op = 2 ∨ i.op = 24 then reg regs i.a 2 && decide (i.b = 0) && decide (i.c = 0)
  else if i.op = 3 ∨ i.op = 21 ∨ i.op = 22 then reg regs i.a 3 && decide (i.b = 0) && decide (i.c = 0)
  else if i.op = 4 then rng i.c 1 4 && (reg regs i.a i.c && reg regs i.b i.c)
  else if i.op = 5 then reg regs i.a 1 && (reg regs i.b 1 && reg regs i.c 1)
  else if i.op = 6 then reg regs i.a 2 && (reg regs i.b 2 && reg regs i.c 2)
  else if i.op = 7 then reg regs i.a 2 && reg regs i.b 1 && decide (i.c = 0)
  else if i.op = 8 then reg regs i.a 1 && reg regs i.b 2 && decide (i.c = 0)
  else if i.op = 9 then reg regs i.a 1 && (reg regs i.b 2 && reg regs i.c 2)
  else if i.op = 10 then rng i.a 0 ncode && decide (i.b = 0) && decide (i.c = 0)
  else if i.op = 11 then rng i.a 0 ncode && rng i.b 1 5 && reg regs i.c 1
  else if i.op = 12 then rng i.a 0 ncode && decide (i.b = 0) && reg regs i.c 3
  else if i.op = 13 ∨ i.op = 16 then reg regs i.a 3 && rng i.b 0 cl.length && decide (i.c = 0)
  else if i.op = 14 ∨ i.op = 15 then rng i.c 0 cl.length && rng i.n 0 (nf cl i.c) && reg regs i.a (fk cl i.c i.n) && reg regs i.b 3
  else if i.op = 17 then reg regs i.a 1 && reg regs i.b 1 && rng i.c 0 cl.length
  else if i.op = 18 then rng i.a 0 ms.length && decide (i.args.length = (mAt ms i.a).length) && regsOk regs (mAt ms i.a) i.args && decide (i.b = 0) && decide (i.c = 0)
  else if i.op = 19 then rng i.b 1 4 && reg regs i.a i.b && decide (i.c = 0)
  else if i.op = 23 then rng i.b 1 3 && reg regs i.a i.b && decide (i.c = 0)
  else if i.op = 20 then decide (i.b = 0) && decide (i.c = 0) && (if retk = 0 then decide (i.a = 0) else reg regs i.a retk)
  else false

def ins (f : Fi) (m : Me) (i : Ins) : Bool :=
  (decide (i.op = 18) || decide (i.args.length = 0)) && body f.classes f.methods m.code.length m.regs m.ret.kind i && num i

def rme (f : Fi) (m : Me) : Bool :=
  head f.classes.length m 2400 && decide (m.stack = 0) && decide (m.locals = 0) && rng m.regs (max 1 (slots m.params : Nat)) 91 && m.code.all (ins f m)
def rmay (f : Fi) : Bool := Hier.may f.classes && rng f.methods.length 1 9 && f.methods.all (rme f)

/-! ### as the reference looks -/
def kinds (op : Int) : Option (Int × Int × Int) :=
  if op = 1 then some (1, 0, 0) else if op = 2 ∨ op = 24 then some (2, 0, 0) else if op = 3 ∨ op = 21 ∨ op = 22 then some (3, 0, 0)
  else if op = 5 then some (1, 1, 1) else if op = 6 then some (2, 2, 2) else if op = 7 then some (2, 1, 0) else if op = 8 then some (1, 2, 0) else if op = 9 then some (1, 2, 2)
  else if op = 10 then some (-1, 0, 0) else if op = 11 then some (-1, -1, 1) else if op = 12 then some (-1, 0, 3) else if op = 13 ∨ op = 16 then some (3, -1, 0)
  else if op = 14 ∨ op = 15 then some (-1, 3, -1) else if op = 17 then some (1, 3, -1) else if op = 18 ∨ op = 20 then some (-1, 0, 0) else if op = 19 ∨ op = 23 then some (-1, -1, 0)
  else if op = 4 then some (-1, -1, -1) else none
/-- a field against its kind -/
def fok (regs kind n : Int) : Bool := if kind = 0 then decide (n = 0) else if 0 < kind then reg regs n kind else true
end Rform
end Go.Proofs.Ytncmhenfgbcihab
