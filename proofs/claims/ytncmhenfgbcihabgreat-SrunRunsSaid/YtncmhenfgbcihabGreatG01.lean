/- Parts of the proof: Num, Rd, RdO, Mem, Hier, Form, Run, RunI, Rform, RunS, Vl, HierW. -/
import Derived.WalkKit
import Derived.Test.YtncmhenfgbcihabGreatRows
import Derived.ProofKit
import Derived.OpenShut
import Derived.Carry
import Derived.Deep.Draws
import Derived.WalkLawsBesides
import Derived.WalkSpells
import Derived.Deep.AppendLies
import Derived.Lib.Hide
set_option linter.unusedSimpArgs false
set_option linter.unusedVariables false
set_option maxHeartbeats 8000000
namespace Go.Proofs.YtncmhenfgbcihabGreat
open Go.RowKit
namespace Num
def Ok (n:Int):Prop:=-9223372036854775808≤n∧n≤9223372036854775807
theorem Ok.of_wf {n:Int}(h:(Lit.int .i64 n).wf=true):Ok n:=by
 simp [Lit.wf,IntKind.min,IntKind.max,IntKind.signed,IntKind.bits] at h;unfold Ok;omega
theorem wrap64_ok (n:Int):Ok (wrap64 n):=by unfold Ok wrap64;omega
theorem wrap64_id {n:Int}(h:Ok n):wrap64 n=n:=by unfold Ok at h;unfold wrap64;omega
theorem wrap32_ok (n:Int):Ok (wrap32 n):=by unfold Ok wrap32;omega
theorem bits_ok (op:BinOp) (a b:Int):Ok (bits op .i64 a b):=Ok.of_wf (by
 unfold bits;split <;> exact (by simp [Lit.wf,IntKind.wrap,IntKind.min,IntKind.max,IntKind.signed,IntKind.bits];try split <;> omega))
def long (op a b:Int):Int × Bool :=
 if op=1 then (wrap64 (a+b),true)
 else if op=2 then (wrap64 (a - b),true)
 else if op=3 then (wrap64 (a*b),true)
 else if op=4 then (if b=0 then (0,false) else if b = -1 then (wrap64 (-a),true) else (a.tdiv b,true))
 else if op=5 then (if b=0 then (0,false) else if b = -1 then (0,true) else (a.tmod b,true))
 else if op=6 then (bits .and .i64 a b,true)
 else if op=7 then (bits .or .i64 a b,true)
 else if op=8 then (bits .xor .i64 a b,true)
 else (0,false)
def int (op a b:Int):Int × Bool:=(wrap32 (long op (wrap32 a) (wrap32 b)).1,(long op (wrap32 a) (wrap32 b)).2)
def cmp (a b:Int):Int:=if a < b then -1 else if b < a then 1 else 0
def holds (c a:Int):Bool :=
 if c=1 then decide (a=0) else if c=2 then decide (a < 0) else if c=3 then decide (a≠0) else if c=4 then decide (0 < a) else false
theorem tdiv_ok {a b:Int}(ha:Ok a) (h1:b≠-1):Ok (a.tdiv b):=by
 unfold Ok at *
 have h:=Int.natAbs_tdiv_le_natAbs a b
 by_cases e:a = -9223372036854775808
 ·by_cases h0:b=0
  ·subst h0;simp
  by_cases e1:b=1
  ·subst e1;simp;omega
  ·have h2:2≤b.natAbs:=by omega
   have:(a.tdiv b).natAbs=a.natAbs / b.natAbs:=Int.natAbs_tdiv a b
   have h3:a.natAbs / b.natAbs≤a.natAbs / 2:=Nat.div_le_div_left h2 (by omega)
   omega
 ·omega
theorem tmod_ok {a b:Int}(ha:Ok a):Ok (a.tmod b):=by
 unfold Ok at *
 have h:=Int.natAbs_tmod a b
 have h2:=Nat.mod_le a.natAbs b.natAbs
 have h3:0≤a→0≤a.tmod b:=fun h=>Int.tmod_nonneg b h
 by_cases h0:0≤a
 ·have:=h3 h0;omega
 ·have:0≤(-a).tmod b:=Int.tmod_nonneg b (by omega)
  rw [Int.neg_tmod] at this
  omega
theorem long_ok (op a b:Int) (ha:Ok a):Ok (long op a b).1:=by
 unfold long
 repeat' split
 all_goals dsimp only
 all_goals first | with_reducible exact wrap64_ok _ | with_reducible exact bits_ok _ _ _ | with_reducible exact tdiv_ok ha ‹_› | with_reducible exact tmod_ok ha | exact ⟨by omega,by omega⟩
def bitN:Nat→Int→Int
 | 0,n=>n
 | k+1,n=>bitN k ((n - n % 2) / 2)
def bit (n:Int) (k:Nat):Bool:=decide (bitN k n % 2=1)
theorem bitN_eq (k:Nat):∀ n:Int,bitN k n=n / 2 ^ k:=by
 induction k with
 | zero=>intro n;simp [bitN]
 | succ k ih =>
  intro n
  rw [bitN,ih,show (n - n % 2) / 2=n / 2 by omega,Int.pow_succ,Int.mul_comm,Int.ediv_ediv_of_nonneg (by omega)]
theorem bitN_ok (k:Nat){n:Int}(h:Ok n):Ok (bitN k n):=by
 induction k generalizing n with
 | zero=>exact h
 | succ k ih=>unfold Ok at *;rw [bitN];exact ih (by omega)
def opBit (op:Int) (x y:Bool):Bool:=(decide (op=6) && x && y) || (decide (op=7) && (x || y)) || (decide (op=8) && (x != y))
def sumN (op a b:Int):Nat→Int
 | 0=>0
 | k+1=>sumN op a b k+if opBit op (bit a k) (bit b k) then 2 ^ k else 0
theorem bit_testBit (n:Int) (k:Nat) (hk:k < 64):bit n k=(BitVec.ofInt 64 n).toNat.testBit k:=by
 have hp:(2:Int) ^ k*2 ^ (64 - k)=18446744073709551616:=by
  rw [← Int.pow_add,show k+(64 - k)=64 by omega];rfl
 have h2:(2:Int) ^ (64 - k)=2*2 ^ (63 - k):=by
  rw [show 64 - k=(63 - k)+1 by omega,Int.pow_succ,Int.mul_comm]
 have hpos:(0:Int) < 2 ^ k:=Int.pow_pos (by omega)
 rw [bit,bitN_eq]
 have e1:((BitVec.ofInt 64 n).toNat:Int)=n % 18446744073709551616:=by
  rw [BitVec.toNat_ofInt];rw [Int.toNat_of_nonneg (by omega)];rfl
 have e2:(n / 2 ^ k) % 2=(n % 18446744073709551616 / 2 ^ k) % 2:=by
  have hn:n=n % 18446744073709551616+2 ^ k*(2*2 ^ (63 - k)*(n / 18446744073709551616)):=by
   rw [← Int.mul_assoc,← h2,hp];omega
  have:n / 2 ^ k=n % 18446744073709551616 / 2 ^ k+2*2 ^ (63 - k)*(n / 18446744073709551616):=by
   conv=>lhs;rw [hn]
   exact Int.add_mul_ediv_left _ _ (by omega)
  rw [this,Int.mul_assoc];omega
 rw [e2,← e1,Nat.testBit_eq_decide_div_mod_eq]
 have:((BitVec.ofInt 64 n).toNat:Int) / 2 ^ k % 2=(((BitVec.ofInt 64 n).toNat / 2 ^ k % 2:Nat):Int):=by
  simp
 rw [this]
 congr 1
 simp only [eq_iff_iff];omega
def natN (p:Nat→Bool):Nat→Nat
 | 0=>0
 | k+1=>natN p k+if p k then 2 ^ k else 0
theorem natN_testBit (m k:Nat):natN m.testBit k=m % 2 ^ k:=by
 induction k with
 | zero=>simp [natN,Nat.mod_one]
 | succ k ih =>
  rw [natN,ih,Nat.testBit_eq_decide_div_mod_eq,Nat.pow_succ,Nat.mod_mul]
  have:m / 2 ^ k % 2=0∨m / 2 ^ k % 2=1:=by omega
  rcases this with h | h <;> simp [h]
theorem natN_congr {p q:Nat→Bool}(k:Nat) (h:∀ j,j < k→p j=q j):natN p k=natN q k:=by
 induction k with
 | zero=>rfl
 | succ k ih=>rw [natN,natN,ih (fun j hj=>h j (by omega)),h k (by omega)]
theorem sumN_nat (op a b:Int) (k:Nat):sumN op a b k=(natN (fun j=>opBit op (bit a j) (bit b j)) k:Nat):=by
 induction k with
 | zero=>rfl
 | succ k ih=>rw [sumN,natN,ih];split <;> simp
theorem wrap_i64 (n:Int):IntKind.i64.wrap n=wrap64 n:=by
 rw [IntKind.wrap_i64];unfold wrap64;omega
theorem sumN_bits (op a b:Int) (o:BinOp) (f:Bool→Bool→Bool) (g:Nat→Nat→Nat)
  (hg:∀ x y i,(g x y).testBit i=f (x.testBit i) (y.testBit i)) (hlt:∀ x y,x < 2 ^ 64→y < 2 ^ 64→g x y < 2 ^ 64)
  (hop:∀ x y,opBit op x y=f x y)
  (ho:bits o .i64 a b=IntKind.i64.wrap ((g (BitVec.ofInt 64 a).toNat (BitVec.ofInt 64 b).toNat:Nat):Int)) :
  wrap64 (sumN op a b 64)=bits o .i64 a b:=by
 rw [ho,sumN_nat,wrap_i64]
 have:natN (fun j=>opBit op (bit a j) (bit b j)) 64=natN (g (BitVec.ofInt 64 a).toNat (BitVec.ofInt 64 b).toNat).testBit 64 :=
  natN_congr 64 (fun j hj=>by rw [hop,bit_testBit a j hj,bit_testBit b j hj,hg])
 rw [this,natN_testBit,Nat.mod_eq_of_lt (hlt _ _ (BitVec.isLt _) (BitVec.isLt _))]
theorem sumN_and (a b:Int):wrap64 (sumN 6 a b 64)=bits .and .i64 a b :=
 sumN_bits 6 a b .and (fun x y=>x && y) (fun x y=>x &&& y) (fun x y i=>Nat.testBit_and x y i) (fun x y _ hy=>Nat.and_lt_two_pow _ hy)
  (by intro x y;cases x <;> cases y <;> rfl) (by show IntKind.i64.wrap ((BitVec.toNat (BitVec.ofInt 64 a &&& BitVec.ofInt 64 b):Nat):Int)=_;rw [BitVec.toNat_and])
theorem sumN_or (a b:Int):wrap64 (sumN 7 a b 64)=bits .or .i64 a b :=
 sumN_bits 7 a b .or (fun x y=>x || y) (fun x y=>x ||| y) (fun x y i=>Nat.testBit_or x y i) (fun x y hx hy=>Nat.or_lt_two_pow hx hy)
  (by intro x y;cases x <;> cases y <;> rfl) (by show IntKind.i64.wrap ((BitVec.toNat (BitVec.ofInt 64 a ||| BitVec.ofInt 64 b):Nat):Int)=_;rw [BitVec.toNat_or])
theorem sumN_xor (a b:Int):wrap64 (sumN 8 a b 64)=bits .xor .i64 a b :=
 sumN_bits 8 a b .xor (fun x y=>x != y) (fun x y=>x ^^^ y) (fun x y i=>Nat.testBit_xor x y i) (fun x y hx hy=>Nat.xor_lt_two_pow hx hy)
  (by intro x y;cases x <;> cases y <;> rfl) (by show IntKind.i64.wrap ((BitVec.toNat (BitVec.ofInt 64 a ^^^ BitVec.ofInt 64 b):Nat):Int)=_;rw [BitVec.toNat_xor])
def refBits (op a b:Int):Int:=wrap64 (sumN op a b 64)
def refLong (op a b:Int):Int × Bool :=
 if op=1 then (wrap64 (a+b),true)
 else if op=2 then (wrap64 (a - b),true)
 else if op=3 then (wrap64 (a*b),true)
 else if op=6∨op=7∨op=8 then (refBits op a b,true)
 else if (op≠4∧op≠5)∨b=0 then (0,false)
 else if op=4 then (if b≠-1 then a.tdiv b else wrap64 (0 - a),true)
 else (wrap64 (a - wrap64 ((if b≠-1 then a.tdiv b else wrap64 (0 - a))*b)),true)
theorem rem_eq (a b:Int) (ha:Ok a) (_hb:b≠0):wrap64 (a - wrap64 ((if b≠-1 then a.tdiv b else wrap64 (0 - a))*b))=if b = -1 then 0 else a.tmod b:=by
 by_cases h:b = -1
 ·subst h;unfold Ok at ha;simp [wrap64];omega
 ·rw [if_pos h,if_neg h]
  have e:=Int.tdiv_mul_add_tmod a b
  have h1:=tmod_ok (b:=b) ha
  have:wrap64 (a - wrap64 (a.tdiv b*b))=wrap64 (a - a.tdiv b*b):=by unfold wrap64;omega
  rw [this,show a - a.tdiv b*b=a.tmod b by omega,wrap64_id h1]
theorem refLong_eq (op a b:Int) (ha:Ok a):refLong op a b=long op a b:=by
 unfold refLong long
 by_cases h1:op=1
 ·simp [h1]
 by_cases h2:op=2
 ·simp [h2]
 by_cases h3:op=3
 ·simp [h3]
 by_cases h4:op=4
 ·subst h4;by_cases hb:b=0
  ·simp [hb]
  ·by_cases hb1:b = -1 <;> simp [hb,hb1,wrap64]
 by_cases h5:op=5
 ·subst h5;by_cases hb:b=0
  ·simp [hb]
  ·have:=rem_eq a b ha hb
   simp only [show ¬((5:Int)=1) by omega,show ¬((5:Int)=2) by omega,show ¬((5:Int)=3) by omega,show ¬((5:Int)=4) by omega,show ¬((5:Int)=6∨(5:Int)=7∨(5:Int)=8) by omega,if_false,if_true,hb]
   rw [if_neg (by simp),this]
   split <;> rfl
 by_cases h6:op=6
 ·subst h6;simp [refBits,sumN_and]
 by_cases h7:op=7
 ·subst h7;simp [refBits,sumN_or]
 by_cases h8:op=8
 ·subst h8;simp [refBits,sumN_xor]
 simp [h1,h2,h3,h4,h5,h6,h7,h8]
def refNarrow (a:Int):Int :=
 let n:=a.tmod 4294967296
 let n:=if n < 0 then n+4294967296 else n
 if 2147483648≤n then n - 4294967296 else n
theorem refNarrow_eq (a:Int):refNarrow a=wrap32 a:=by
 unfold refNarrow wrap32
 by_cases h:0≤a
 ·rw [Int.tmod_eq_emod_of_nonneg h];simp only [];split <;> split <;> omega
 ·have e:a.tmod 4294967296 = -((-a) % 4294967296):=by
   rw [← Int.tmod_eq_emod_of_nonneg (show 0≤-a by omega),Int.neg_tmod,Int.neg_neg]
  rw [e];simp only [];split <;> split <;> omega
end Num
open Go.ChangeShapes Go.WideShapes Go.ChangeAt Go.RowKit
namespace D
structure Ty where
 kind:Int
 cls:Int
structure Cls where
 sup:Int
 fields:List Ty
structure Hd where
 lo:Int
 hi:Int
 go:Int
 cls:Int
structure Ins where
 op:Int
 a:Int
 b:Int
 c:Int
 n:Int
 args:List Int
structure Me where
 params:List Ty
 ret:Ty
 stack:Int
 locals:Int
 regs:Int
 code:List Ins
 handlers:List Hd
structure Fi where
 classes:List Cls
 methods:List Me
end D
namespace Rd
open Num
def Sl {α:Type}(size:Nat) (E:World→Nat→Nat→Nat→α→Prop) (w:World) (B:Nat) (v:Value) (l:List α):Prop :=
 ∃ (a:Option Addr) (cap:Nat),v=.slice a l.length cap∧l.length≤cap∧cap≤9223372036854775807 ∧
  ∀ i (h:i < l.length),∃ b o,a=some ⟨b,o,none⟩∧b < B∧E w B b (o+i*size) l[i]
def EInt (w:World) (_B b o:Nat) (n:Int):Prop:=w.cell? ⟨b,o,none⟩=some (.int .i64 n)∧Ok n
def ETy (w:World) (_B b o:Nat) (t:D.Ty):Prop :=
 w.cell? ⟨b,o,none⟩=some (.int .i64 t.kind)∧w.cell? ⟨b,o+1,none⟩=some (.int .i64 t.cls)∧Ok t.kind∧Ok t.cls
def ECls (w:World) (B b o:Nat) (c:D.Cls):Prop :=
 w.cell? ⟨b,o,none⟩=some (.int .i64 c.sup)∧Ok c.sup∧∃ v,w.cell? ⟨b,o+1,none⟩=some v∧Sl 2 ETy w B v c.fields
def EHd (w:World) (_B b o:Nat) (h:D.Hd):Prop :=
 w.cell? ⟨b,o,none⟩=some (.int .i64 h.lo)∧w.cell? ⟨b,o+1,none⟩=some (.int .i64 h.hi)∧w.cell? ⟨b,o+2,none⟩=some (.int .i64 h.go)∧w.cell? ⟨b,o+3,none⟩=some (.int .i64 h.cls) ∧
  Ok h.lo∧Ok h.hi∧Ok h.go∧Ok h.cls
def EIns (w:World) (B b o:Nat) (i:D.Ins):Prop :=
 w.cell? ⟨b,o,none⟩=some (.int .i64 i.op)∧w.cell? ⟨b,o+1,none⟩=some (.int .i64 i.a)∧w.cell? ⟨b,o+2,none⟩=some (.int .i64 i.b)∧w.cell? ⟨b,o+3,none⟩=some (.int .i64 i.c)∧w.cell? ⟨b,o+4,none⟩=some (.int .i64 i.n) ∧
  (Ok i.op∧Ok i.a∧Ok i.b∧Ok i.c∧Ok i.n)∧∃ v,w.cell? ⟨b,o+5,none⟩=some v∧Sl 1 EInt w B v i.args
def EMe (w:World) (B b o:Nat) (m:D.Me):Prop :=
 ∃ vp vc vh,w.cell? ⟨b,o,none⟩=some vp∧w.cell? ⟨b,o+1,none⟩=some (.int .i64 m.ret.kind)∧w.cell? ⟨b,o+2,none⟩=some (.int .i64 m.ret.cls) ∧
  w.cell? ⟨b,o+3,none⟩=some (.int .i64 m.stack)∧w.cell? ⟨b,o+4,none⟩=some (.int .i64 m.locals)∧w.cell? ⟨b,o+5,none⟩=some (.int .i64 m.regs) ∧
  w.cell? ⟨b,o+6,none⟩=some vc∧w.cell? ⟨b,o+7,none⟩=some vh ∧
  (Ok m.ret.kind∧Ok m.ret.cls∧Ok m.stack∧Ok m.locals∧Ok m.regs)∧Sl 2 ETy w B vp m.params∧Sl 6 EIns w B vc m.code∧Sl 4 EHd w B vh m.handlers
def VMe (w:World) (B:Nat) (v:Value) (m:D.Me):Prop :=
 ∃ vp vc vh,v=.agg #[vp,.int .i64 m.ret.kind,.int .i64 m.ret.cls,.int .i64 m.stack,.int .i64 m.locals,.int .i64 m.regs,vc,vh] ∧
  (Ok m.ret.kind∧Ok m.ret.cls∧Ok m.stack∧Ok m.locals∧Ok m.regs)∧Sl 2 ETy w B vp m.params∧Sl 6 EIns w B vc m.code∧Sl 4 EHd w B vh m.handlers
def VIns (w:World) (B:Nat) (v:Value) (i:D.Ins):Prop :=
 ∃ va,v=.agg #[.int .i64 i.op,.int .i64 i.a,.int .i64 i.b,.int .i64 i.c,.int .i64 i.n,va]∧(Ok i.op∧Ok i.a∧Ok i.b∧Ok i.c∧Ok i.n)∧Sl 1 EInt w B va i.args
def VFi (w:World) (B:Nat) (v:Value) (f:D.Fi):Prop :=
 ∃ vc vm,v=.agg #[vc,vm]∧Sl 2 ECls w B vc f.classes∧Sl 8 EMe w B vm f.methods
def Mono {α:Type}(E:World→Nat→Nat→Nat→α→Prop):Prop :=
 ∀ w w' B B' b o x,Below B w w'→B≤B'→b < B→E w B b o x→E w' B' b o x
theorem Sl.mono {α:Type}{size:Nat}{E:World→Nat→Nat→Nat→α→Prop}(hE:Mono E){w w':World}{B B':Nat}{v:Value}{l:List α}(h:Sl size E w B v l) (hb:Below B w w') (hB:B≤B'):Sl size E w' B' v l:=by
 obtain ⟨a,cap,hv,hl,hc,h⟩:=h
 refine ⟨a,cap,hv,hl,hc,fun i hi=>?_⟩
 obtain ⟨b,o,ha,hlt,he⟩:=h i hi
 exact ⟨b,o,ha,Nat.lt_of_lt_of_le hlt hB,hE _ _ _ _ _ _ _ hb hB hlt he⟩
theorem mInt:Mono EInt:=fun w w' B B' b o x hb _ hlt h=>by
 unfold EInt at *;rw [hb.cell (p:=⟨b,o,none⟩) hlt];exact h
theorem mTy:Mono ETy:=fun w w' B B' b o x hb _ hlt h=>by
 unfold ETy at *;rw [hb.cell (p:=⟨b,o,none⟩) hlt,hb.cell (p:=⟨b,o+1,none⟩) hlt];exact h
theorem mCls:Mono ECls:=fun w w' B B' b o x hb hB hlt h=>by
 unfold ECls at *;rw [hb.cell (p:=⟨b,o,none⟩) hlt,hb.cell (p:=⟨b,o+1,none⟩) hlt]
 obtain ⟨h1,h2,v,h3,h4⟩:=h
 exact ⟨h1,h2,v,h3,h4.mono mTy hb hB⟩
theorem mHd:Mono EHd:=fun w w' B B' b o x hb _ hlt h=>by
 unfold EHd at *;rw [hb.cell (p:=⟨b,o,none⟩) hlt,hb.cell (p:=⟨b,o+1,none⟩) hlt,hb.cell (p:=⟨b,o+2,none⟩) hlt,hb.cell (p:=⟨b,o+3,none⟩) hlt];exact h
theorem mIns:Mono EIns:=fun w w' B B' b o x hb hB hlt h=>by
 unfold EIns at *;rw [hb.cell (p:=⟨b,o,none⟩) hlt,hb.cell (p:=⟨b,o+1,none⟩) hlt,hb.cell (p:=⟨b,o+2,none⟩) hlt,hb.cell (p:=⟨b,o+3,none⟩) hlt,hb.cell (p:=⟨b,o+4,none⟩) hlt,hb.cell (p:=⟨b,o+5,none⟩) hlt]
 obtain ⟨h1,h2,h3,h4,h5,h6,v,h7,h8⟩:=h
 exact ⟨h1,h2,h3,h4,h5,h6,v,h7,h8.mono mInt hb hB⟩
theorem mMe:Mono EMe:=fun w w' B B' b o x hb hB hlt h=>by
 unfold EMe at *
 rw [hb.cell (p:=⟨b,o,none⟩) hlt,hb.cell (p:=⟨b,o+1,none⟩) hlt,hb.cell (p:=⟨b,o+2,none⟩) hlt,hb.cell (p:=⟨b,o+3,none⟩) hlt,hb.cell (p:=⟨b,o+4,none⟩) hlt,hb.cell (p:=⟨b,o+5,none⟩) hlt,hb.cell (p:=⟨b,o+6,none⟩) hlt,hb.cell (p:=⟨b,o+7,none⟩) hlt]
 obtain ⟨vp,vc,vh,h1,h2,h3,h4,h5,h6,h7,h8,h9,h10,h11,h12⟩:=h
 exact ⟨vp,vc,vh,h1,h2,h3,h4,h5,h6,h7,h8,h9,h10.mono mTy hb hB,h11.mono mIns hb hB,h12.mono mHd hb hB⟩
theorem VMe.mono {w w':World}{B B':Nat}{v:Value}{m:D.Me}(h:VMe w B v m) (hb:Below B w w') (hB:B≤B'):VMe w' B' v m:=by
 obtain ⟨vp,vc,vh,h1,h2,h3,h4,h5⟩:=h
 exact ⟨vp,vc,vh,h1,h2,h3.mono mTy hb hB,h4.mono mIns hb hB,h5.mono mHd hb hB⟩
theorem VIns.mono {w w':World}{B B':Nat}{v:Value}{m:D.Ins}(h:VIns w B v m) (hb:Below B w w') (hB:B≤B'):VIns w' B' v m:=by
 obtain ⟨va,h1,h2,h3⟩:=h
 exact ⟨va,h1,h2,h3.mono mInt hb hB⟩
theorem VFi.mono {w w':World}{B B':Nat}{v:Value}{f:D.Fi}(h:VFi w B v f) (hb:Below B w w') (hB:B≤B'):VFi w' B' v f:=by
 obtain ⟨vc,vm,h1,h2,h3⟩:=h
 exact ⟨vc,vm,h1,h2.mono mCls hb hB,h3.mono mMe hb hB⟩
theorem below_drewN {B:Nat}{a w:World}(h:Below B a w) (n:Nat):Below B a (w.drewN n):=⟨h.os,h.tape,h.output,h.size,h.block⟩
theorem byB {p:Prop}(h:p:=by repeat' (first | with_reducible exact Below.refl _ _ | with_reducible assumption | exact Nat.le_refl _ | with_reducible refine Go.Proofs.YtncmhenfgbcihabGreat.Rd.below_drewN ?_ _ | with_reducible refine Below.alloc ?_ ?_ _ | with_reducible refine Below.setCell ?_ ?_ _ | with_reducible refine Below.drew ?_ | omega | (simp;omega) | (simp;done))):p:=h
theorem byL {p:Prop}(h:p:=by first | omega | (simp;omega) | (simp;done)):p:=h
section
variable {H:Type}{enc:TypeId × Value→H}{w:World}{sp:Nat→Bool}{held:Bool}
theorem list_of {α:Type}(n:Nat) (Q:Nat→α→Prop) (h:∀ i,i < n→∃ x,Q i x):∃ l:List α,l.length=n∧∀ i (hi:i < l.length),Q i l[i]:=by
 induction n with
 | zero=>exact ⟨[],rfl,fun i hi=>absurd hi (by simp)⟩
 | succ n ih =>
  obtain ⟨l,hl,hq⟩:=ih (fun i hi=>h i (by omega))
  obtain ⟨x,hx⟩:=h n (by omega)
  refine ⟨l++[x],by simp [hl],fun i hi=>?_⟩
  by_cases hlt:i < l.length
  ·rw [List.getElem_append_left hlt];exact hq i hlt
  ·have:i=l.length:=by simp at hi;omega
   subst this
   simp;rw [hl];exact hx
theorem Sl.of_trod {P:Program}{α:Type}{size:Nat}{E:World→Nat→Nat→Nat→α→Prop}{t e:TypeId}(ht:P.underlying t=some (.slice e)) (hs:P.cellsOf e=size) (h0:0 < size)
  (hE:∀ fuel b o cs x,b < w.heap.size→(∀ i,i < size→w.cell? ⟨b,o+i,none⟩=cs[i]?)→cs.length=size→DataW.trod enc P w 0 sp held fuel e cs=some x→∃ y,E w w.heap.size b o y)
  {fuel:Nat}{cs:List Value}{x:DataW H × List MemPlace}(h:DataW.trod enc P w 0 sp held fuel t cs=some x):∃ v l,cs=[v]∧Sl size E w w.heap.size v l:=by
 rcases DataW.trod_slice ht h with ⟨rfl,_⟩ | ⟨a,len,cap,elems,rest,n,_,rfl,_,hb,hl,hc,hlen,hel,_,_⟩
 ·exact ⟨_,[],rfl,none,0,rfl,by simp,by omega,fun i hi=>absurd hi (by simp)⟩
 ·subst hs
  have key:∀ i,i < len→∃ y,(∃ b o,a=⟨b,o,none⟩∧b < w.heap.size∧E w w.heap.size b (o+i*P.cellsOf e) y):=by
   intro i hi
   have h1:=hel i hi
   rw [List.getElem?_eq_getElem (by omega)] at h1
   obtain ⟨cs,hc1,hc2⟩:=Option.bind_eq_some_iff.1 h1
   have hblk:=World.cells?_block hc1 h0
   obtain ⟨_,hcl,hcc⟩:=World.cells?_some hc1
   have hspot:a.spot=none:=by
    cases hsp:a.spot with
    | none=>rfl
    | some s =>
     exfalso
     have hel0:=hel 0 (by omega)
     rw [List.getElem?_eq_getElem (by omega)] at hel0
     obtain ⟨cs0,hd1,_⟩:=Option.bind_eq_some_iff.1 hel0
     obtain ⟨_,hd2,hd3⟩:=World.cells?_some hd1
     have hd4:=hd3 0 h0
     rw [List.getElem?_eq_getElem (by omega)] at hd4
     simp [Addr.add,World.cell?,hsp] at hd4
     split at hd4 <;> simp_all
   obtain ⟨b,o,s⟩:=a
   simp only at hspot
   subst hspot
   have hbb:b < w.heap.size:=by
    simp only [Addr.add] at hblk;split at hblk <;> exact hblk
   obtain ⟨y,hy⟩:=hE n b (o+i*P.cellsOf e) cs _ hbb (fun j hj=>by
    have:=hcc j hj
    rw [← this]
    simp only [Addr.add]
    by_cases q1:i*P.cellsOf e=0 <;> by_cases q2:j=0 <;> simp [q1,q2]) hcl hc2
   exact ⟨y,b,o,rfl,hbb,hy⟩
  obtain ⟨l,hl1,hl2⟩:=list_of len _ key
  subst hl1
  refine ⟨_,l,rfl,some a,cap,rfl,hl,(by have:maxLen=9223372036854775807:=rfl;omega),fun i hi=>?_⟩
  obtain ⟨b,o,ha,hbb,hy⟩:=hl2 i hi
  exact ⟨b,o,by rw [ha],hbb,hy⟩
end
end Rd
open Go.ChangeShapes Go.WideShapes Go.ChangeAt Go.RowKit
namespace Rd
open Num
section
variable {H:Type}{enc:TypeId × Value→H}{w:World}{sp:Nat→Bool}{held:Bool}
theorem len1 {cs:List Value}(h:cs.length=1):∃ c0,cs=[c0]:=by
 match cs,h with
 | [c0],_=>exact ⟨c0,rfl⟩
theorem len2 {cs:List Value}(h:cs.length=2):∃ c0 c1,cs=[c0,c1]:=by
 match cs,h with
 | [c0,c1],_=>exact ⟨c0,c1,rfl⟩
theorem len4 {cs:List Value}(h:cs.length=4):∃ c0 c1 c2 c3,cs=[c0,c1,c2,c3]:=by
 match cs,h with
 | [c0,c1,c2,c3],_=>exact ⟨c0,c1,c2,c3,rfl⟩
theorem len6 {cs:List Value}(h:cs.length=6):∃ c0 c1 c2 c3 c4 c5,cs=[c0,c1,c2,c3,c4,c5]:=by
 match cs,h with
 | [c0,c1,c2,c3,c4,c5],_=>exact ⟨c0,c1,c2,c3,c4,c5,rfl⟩
theorem len8 {cs:List Value}(h:cs.length=8):∃ c0 c1 c2 c3 c4 c5 c6 c7,cs=[c0,c1,c2,c3,c4,c5,c6,c7]:=by
 match cs,h with
 | [c0,c1,c2,c3,c4,c5,c6,c7],_=>exact ⟨c0,c1,c2,c3,c4,c5,c6,c7,rfl⟩
theorem cells_int:Tryz.prog.cellsOf 3=1:=by kernel_rfl
theorem cells_int64:Tryz.prog.cellsOf 2=1:=by kernel_rfl
theorem cells_ty:Tryz.prog.cellsOf 50=2:=by kernel_rfl
theorem cells_tys:Tryz.prog.cellsOf 48=1:=by kernel_rfl
theorem cells_ints:Tryz.prog.cellsOf 64=1:=by kernel_rfl
theorem cells_cls:Tryz.prog.cellsOf 107=2:=by kernel_rfl
theorem cells_clss:Tryz.prog.cellsOf 22=1:=by kernel_rfl
theorem cells_hd:Tryz.prog.cellsOf 110=4:=by kernel_rfl
theorem cells_hds:Tryz.prog.cellsOf 52=1:=by kernel_rfl
theorem cells_ins:Tryz.prog.cellsOf 66=6:=by kernel_rfl
theorem cells_inss:Tryz.prog.cellsOf 51=1:=by kernel_rfl
theorem cells_me:Tryz.prog.cellsOf 54=8:=by kernel_rfl
theorem cells_mes:Tryz.prog.cellsOf 23=1:=by kernel_rfl
theorem cells_fi:Tryz.prog.cellsOf 25=2:=by kernel_rfl
theorem at_struct {t:TypeId}{fs:Array Field}(ht:Tryz.prog.underlying t=some (.struct fs)){fuel:Nat}{cs:List Value}{x:DataW H × List MemPlace}(h:DataW.trod enc Tryz.prog w 0 sp held fuel t cs=some x) :
  cs.length=Tryz.prog.cellsOf t∧∃ n,∀ (i:Nat) (f:Field),fs[i]? = some f→∃ y,DataW.trod enc Tryz.prog w 0 sp held n f.type ((cs.drop f.offset).take (Tryz.prog.cellsOf f.type))=some y:=by
 obtain ⟨xs,n,_,_,hl,hx,hf⟩:=DataW.trod_struct ht h
 refine ⟨hl,n,fun i f hi=>?_⟩
 have:=hf i f hi
 have hlt:i < fs.size:=by
  rw [Array.getElem?_eq_some_iff] at hi;exact hi.1
 rw [List.getElem?_eq_getElem (by omega)] at this
 exact ⟨_,this⟩
theorem fld {fs:Array Field}{n:Nat}{cs:List Value}(hf:∀ (i:Nat) (f:Field),fs[i]? = some f→∃ y,DataW.trod enc Tryz.prog w 0 sp held n f.type ((cs.drop f.offset).take (Tryz.prog.cellsOf f.type))=some y)
  (i off t k:Nat) (hk:Tryz.prog.cellsOf t=k) (h:∃ f,fs[i]? = some f∧f.type=t∧f.offset=off):∃ y,DataW.trod enc Tryz.prog w 0 sp held n t ((cs.drop off).take k)=some y:=by
 obtain ⟨f,h1,h2,h3⟩:=h
 have:=hf i f h1
 rw [h2,h3,hk] at this
 exact this
theorem int_of {n:Nat}{v:Value}{y:DataW H × List MemPlace}(h:DataW.trod enc Tryz.prog w 0 sp held n 3 [v]=some y):∃ k,v=.int .i64 k∧Ok k:=by
 obtain ⟨k,hk,_,hw⟩:=DataW.trod_int Tryz.underlying3 h
 exact ⟨k,by simpa using hk,Ok.of_wf hw⟩
theorem int64_of {n:Nat}{v:Value}{y:DataW H × List MemPlace}(h:DataW.trod enc Tryz.prog w 0 sp held n 2 [v]=some y):∃ k,v=.int .i64 k∧Ok k:=by
 obtain ⟨k,hk,_,hw⟩:=DataW.trod_int Tryz.underlying2 h
 exact ⟨k,by simpa using hk,Ok.of_wf hw⟩
theorem ty_of {fuel:Nat}{cs:List Value}{x:DataW H × List MemPlace}(h:DataW.trod enc Tryz.prog w 0 sp held fuel 50 cs=some x):∃ t:D.Ty,cs=[.int .i64 t.kind,.int .i64 t.cls]∧Ok t.kind∧Ok t.cls:=by
 obtain ⟨hl,n,hf⟩:=at_struct Tryz.underlying50 h
 rw [cells_ty] at hl
 obtain ⟨c0,c1,rfl⟩:=len2 hl
 obtain ⟨y0,h0⟩:=fld hf 0 0 3 _ cells_int ⟨_,rfl,rfl,rfl⟩
 obtain ⟨y1,h1⟩:=fld hf 1 1 3 _ cells_int ⟨_,rfl,rfl,rfl⟩
 simp only [List.drop_zero,List.take_succ_cons,List.take_zero,List.drop_succ_cons] at h0 h1
 obtain ⟨k,rfl,hk⟩:=int_of h0
 obtain ⟨c,rfl,hc⟩:=int_of h1
 exact ⟨⟨k,c⟩,rfl,hk,hc⟩
theorem tys_of {fuel:Nat}{cs:List Value}{x:DataW H × List MemPlace}(h:DataW.trod enc Tryz.prog w 0 sp held fuel 48 cs=some x):∃ v l,cs=[v]∧Sl 2 ETy w w.heap.size v l :=
 Sl.of_trod Tryz.underlying48 cells_ty (by omega) (fun fuel b o cs x hb hc hl h=>by
  obtain ⟨t,rfl,h1,h2⟩:=ty_of h
  exact ⟨t,hc 0 (by omega),hc 1 (by omega),h1,h2⟩) h
theorem ints_of {fuel:Nat}{cs:List Value}{x:DataW H × List MemPlace}(h:DataW.trod enc Tryz.prog w 0 sp held fuel 64 cs=some x):∃ v l,cs=[v]∧Sl 1 EInt w w.heap.size v l :=
 Sl.of_trod Tryz.underlying64 cells_int (by omega) (fun fuel b o cs x hb hc hl h=>by
  obtain ⟨c0,rfl⟩:=len1 hl
  obtain ⟨k,rfl,hk⟩:=int_of h
  exact ⟨k,hc 0 (by omega),hk⟩) h
theorem cls_of {fuel:Nat}{cs:List Value}{x:DataW H × List MemPlace}(h:DataW.trod enc Tryz.prog w 0 sp held fuel 107 cs=some x):∃ (c:D.Cls) (v:Value),cs=[.int .i64 c.sup,v]∧Ok c.sup∧Sl 2 ETy w w.heap.size v c.fields:=by
 obtain ⟨hl,n,hf⟩:=at_struct Tryz.underlying107 h
 rw [cells_cls] at hl
 obtain ⟨c0,c1,rfl⟩:=len2 hl
 obtain ⟨y0,h0⟩:=fld hf 0 0 3 _ cells_int ⟨_,rfl,rfl,rfl⟩
 obtain ⟨y1,h1⟩:=fld hf 1 1 48 _ cells_tys ⟨_,rfl,rfl,rfl⟩
 simp only [List.drop_zero,List.take_succ_cons,List.take_zero,List.drop_succ_cons] at h0 h1
 obtain ⟨k,rfl,hk⟩:=int_of h0
 obtain ⟨v,l,hv,hs⟩:=tys_of h1
 simp only [List.cons.injEq,and_true] at hv
 subst hv
 exact ⟨⟨k,l⟩,_,rfl,hk,hs⟩
theorem clss_of {fuel:Nat}{cs:List Value}{x:DataW H × List MemPlace}(h:DataW.trod enc Tryz.prog w 0 sp held fuel 22 cs=some x):∃ v l,cs=[v]∧Sl 2 ECls w w.heap.size v l :=
 Sl.of_trod Tryz.underlying22 cells_cls (by omega) (fun fuel b o cs x hb hc hl h=>by
  obtain ⟨c,v,rfl,h1,h2⟩:=cls_of h
  exact ⟨c,hc 0 (by omega),h1,v,hc 1 (by omega),h2⟩) h
theorem hd_of {fuel:Nat}{cs:List Value}{x:DataW H × List MemPlace}(h:DataW.trod enc Tryz.prog w 0 sp held fuel 110 cs=some x):∃ d:D.Hd,cs=[.int .i64 d.lo,.int .i64 d.hi,.int .i64 d.go,.int .i64 d.cls]∧Ok d.lo∧Ok d.hi∧Ok d.go∧Ok d.cls:=by
 obtain ⟨hl,n,hf⟩:=at_struct Tryz.underlying110 h
 rw [cells_hd] at hl
 obtain ⟨c0,c1,c2,c3,rfl⟩:=len4 hl
 obtain ⟨y0,h0⟩:=fld hf 0 0 3 _ cells_int ⟨_,rfl,rfl,rfl⟩
 obtain ⟨y1,h1⟩:=fld hf 1 1 3 _ cells_int ⟨_,rfl,rfl,rfl⟩
 obtain ⟨y2,h2⟩:=fld hf 2 2 3 _ cells_int ⟨_,rfl,rfl,rfl⟩
 obtain ⟨y3,h3⟩:=fld hf 3 3 3 _ cells_int ⟨_,rfl,rfl,rfl⟩
 simp only [List.drop_zero,List.take_succ_cons,List.take_zero,List.drop_succ_cons] at h0 h1 h2 h3
 obtain ⟨k0,rfl,q0⟩:=int_of h0
 obtain ⟨k1,rfl,q1⟩:=int_of h1
 obtain ⟨k2,rfl,q2⟩:=int_of h2
 obtain ⟨k3,rfl,q3⟩:=int_of h3
 exact ⟨⟨k0,k1,k2,k3⟩,rfl,q0,q1,q2,q3⟩
theorem hds_of {fuel:Nat}{cs:List Value}{x:DataW H × List MemPlace}(h:DataW.trod enc Tryz.prog w 0 sp held fuel 52 cs=some x):∃ v l,cs=[v]∧Sl 4 EHd w w.heap.size v l :=
 Sl.of_trod Tryz.underlying52 cells_hd (by omega) (fun fuel b o cs x hb hc hl h=>by
  obtain ⟨t,rfl,h1,h2,h3,h4⟩:=hd_of h
  exact ⟨t,hc 0 (by omega),hc 1 (by omega),hc 2 (by omega),hc 3 (by omega),h1,h2,h3,h4⟩) h
theorem ins_of {fuel:Nat}{cs:List Value}{x:DataW H × List MemPlace}(h:DataW.trod enc Tryz.prog w 0 sp held fuel 66 cs=some x):∃ (i:D.Ins) (v:Value),cs=[.int .i64 i.op,.int .i64 i.a,.int .i64 i.b,.int .i64 i.c,.int .i64 i.n,v]∧(Ok i.op∧Ok i.a∧Ok i.b∧Ok i.c∧Ok i.n)∧Sl 1 EInt w w.heap.size v i.args:=by
 obtain ⟨hl,n,hf⟩:=at_struct Tryz.underlying66 h
 rw [cells_ins] at hl
 obtain ⟨c0,c1,c2,c3,c4,c5,rfl⟩:=len6 hl
 obtain ⟨y0,h0⟩:=fld hf 0 0 3 _ cells_int ⟨_,rfl,rfl,rfl⟩
 obtain ⟨y1,h1⟩:=fld hf 1 1 3 _ cells_int ⟨_,rfl,rfl,rfl⟩
 obtain ⟨y2,h2⟩:=fld hf 2 2 3 _ cells_int ⟨_,rfl,rfl,rfl⟩
 obtain ⟨y3,h3⟩:=fld hf 3 3 3 _ cells_int ⟨_,rfl,rfl,rfl⟩
 obtain ⟨y4,h4⟩:=fld hf 4 4 2 _ cells_int64 ⟨_,rfl,rfl,rfl⟩
 obtain ⟨y5,h5⟩:=fld hf 5 5 64 _ cells_ints ⟨_,rfl,rfl,rfl⟩
 simp only [List.drop_zero,List.take_succ_cons,List.take_zero,List.drop_succ_cons] at h0 h1 h2 h3 h4 h5
 obtain ⟨k0,rfl,q0⟩:=int_of h0
 obtain ⟨k1,rfl,q1⟩:=int_of h1
 obtain ⟨k2,rfl,q2⟩:=int_of h2
 obtain ⟨k3,rfl,q3⟩:=int_of h3
 obtain ⟨k4,rfl,q4⟩:=int64_of h4
 obtain ⟨v,l,hv,hs⟩:=ints_of h5
 simp only [List.cons.injEq,and_true] at hv
 subst hv
 exact ⟨⟨k0,k1,k2,k3,k4,l⟩,_,rfl,⟨q0,q1,q2,q3,q4⟩,hs⟩
theorem inss_of {fuel:Nat}{cs:List Value}{x:DataW H × List MemPlace}(h:DataW.trod enc Tryz.prog w 0 sp held fuel 51 cs=some x):∃ v l,cs=[v]∧Sl 6 EIns w w.heap.size v l :=
 Sl.of_trod Tryz.underlying51 cells_ins (by omega) (fun fuel b o cs x hb hc hl h=>by
  obtain ⟨i,v,rfl,h1,h2⟩:=ins_of h
  exact ⟨i,hc 0 (by omega),hc 1 (by omega),hc 2 (by omega),hc 3 (by omega),hc 4 (by omega),h1,v,hc 5 (by omega),h2⟩) h
theorem me_of {fuel:Nat}{cs:List Value}{x:DataW H × List MemPlace}(h:DataW.trod enc Tryz.prog w 0 sp held fuel 54 cs=some x):∃ (m:D.Me) (vp vc vh:Value),cs=[vp,.int .i64 m.ret.kind,.int .i64 m.ret.cls,.int .i64 m.stack,.int .i64 m.locals,.int .i64 m.regs,vc,vh] ∧
  (Ok m.ret.kind∧Ok m.ret.cls∧Ok m.stack∧Ok m.locals∧Ok m.regs)∧Sl 2 ETy w w.heap.size vp m.params∧Sl 6 EIns w w.heap.size vc m.code∧Sl 4 EHd w w.heap.size vh m.handlers:=by
 obtain ⟨hl,n,hf⟩:=at_struct Tryz.underlying54 h
 rw [cells_me] at hl
 obtain ⟨c0,c1,c2,c3,c4,c5,c6,c7,rfl⟩:=len8 hl
 obtain ⟨y0,h0⟩:=fld hf 0 0 48 _ cells_tys ⟨_,rfl,rfl,rfl⟩
 obtain ⟨y1,h1⟩:=fld hf 1 1 50 _ cells_ty ⟨_,rfl,rfl,rfl⟩
 obtain ⟨y2,h2⟩:=fld hf 2 3 3 _ cells_int ⟨_,rfl,rfl,rfl⟩
 obtain ⟨y3,h3⟩:=fld hf 3 4 3 _ cells_int ⟨_,rfl,rfl,rfl⟩
 obtain ⟨y4,h4⟩:=fld hf 4 5 3 _ cells_int ⟨_,rfl,rfl,rfl⟩
 obtain ⟨y5,h5⟩:=fld hf 5 6 51 _ cells_inss ⟨_,rfl,rfl,rfl⟩
 obtain ⟨y6,h6⟩:=fld hf 6 7 52 _ cells_hds ⟨_,rfl,rfl,rfl⟩
 simp only [List.drop_zero,List.take_succ_cons,List.take_zero,List.drop_succ_cons] at h0 h1 h2 h3 h4 h5 h6
 obtain ⟨v0,l0,hv0,hs0⟩:=tys_of h0
 obtain ⟨t,ht,ht1,ht2⟩:=ty_of h1
 obtain ⟨k2,rfl,q2⟩:=int_of h2
 obtain ⟨k3,rfl,q3⟩:=int_of h3
 obtain ⟨k4,rfl,q4⟩:=int_of h4
 obtain ⟨v5,l5,hv5,hs5⟩:=inss_of h5
 obtain ⟨v6,l6,hv6,hs6⟩:=hds_of h6
 simp only [List.cons.injEq,and_true] at hv0 ht hv5 hv6
 obtain ⟨rfl,rfl⟩:=ht
 subst hv0 hv5 hv6
 exact ⟨⟨l0,t,k2,k3,k4,l5,l6⟩,_,_,_,rfl,⟨ht1,ht2,q2,q3,q4⟩,hs0,hs5,hs6⟩
theorem mes_of {fuel:Nat}{cs:List Value}{x:DataW H × List MemPlace}(h:DataW.trod enc Tryz.prog w 0 sp held fuel 23 cs=some x):∃ v l,cs=[v]∧Sl 8 EMe w w.heap.size v l :=
 Sl.of_trod Tryz.underlying23 cells_me (by omega) (fun fuel b o cs x hb hc hl h=>by
  obtain ⟨m,vp,vc,vh,rfl,h1,h2,h3,h4⟩:=me_of h
  exact ⟨m,vp,vc,vh,hc 0 (by omega),hc 1 (by omega),hc 2 (by omega),hc 3 (by omega),hc 4 (by omega),hc 5 (by omega),hc 6 (by omega),hc 7 (by omega),h1,h2,h3,h4⟩) h
theorem fi_of {fuel:Nat}{cs:List Value}{x:DataW H × List MemPlace}(h:DataW.trod enc Tryz.prog w 0 sp held fuel 25 cs=some x):∃ (f:D.Fi) (vc vm:Value),cs=[vc,vm]∧Sl 2 ECls w w.heap.size vc f.classes∧Sl 8 EMe w w.heap.size vm f.methods:=by
 obtain ⟨hl,n,hf⟩:=at_struct Tryz.underlying25 h
 rw [cells_fi] at hl
 obtain ⟨c0,c1,rfl⟩:=len2 hl
 obtain ⟨y0,h0⟩:=fld hf 0 0 22 _ cells_clss ⟨_,rfl,rfl,rfl⟩
 obtain ⟨y1,h1⟩:=fld hf 1 1 23 _ cells_mes ⟨_,rfl,rfl,rfl⟩
 simp only [List.drop_zero,List.take_succ_cons,List.take_zero,List.drop_succ_cons] at h0 h1
 obtain ⟨v0,l0,hv0,hs0⟩:=clss_of h0
 obtain ⟨v1,l1,hv1,hs1⟩:=mes_of h1
 simp only [List.cons.injEq,and_true] at hv0 hv1
 subst hv0 hv1
 exact ⟨⟨l0,l1⟩,_,_,rfl,hs0,hs1⟩
set_option maxRecDepth 100000 in
theorem open_file {r:Reach}{b0:Nat}{v:Value}{d:DataW H}{ps:List MemPlace}(hval:Value.okWide Tryz.prog w r b0 25 v) (hd:DataW.Trod enc Tryz.prog w 0 sp held 25 v d ps):∃ f,VFi w w.heap.size v f:=by
 obtain ⟨cs,rfl,_⟩:=okWide_struct Tryz.underlying25 hval
 obtain ⟨fuel,hf⟩:=hd
 obtain ⟨f,vc,vm,hv,hs,hm⟩:=fi_of hf
 simp only [Value.cells] at hv
 refine ⟨f,vc,vm,?_,hs,hm⟩
 congr 1
 exact Array.toList_inj.1 (by simpa using hv)
end
end Rd
namespace Mem
open Num Rd D
theorem cell_lt {w:World}{b o:Nat}{v:Value}(h:w.cell? ⟨b,o,none⟩=some v):b < w.heap.size:=World.block_lt_of_cell? w _ h
structure Kp (X:Nat→Prop) (w w':World):Prop where
 os:w'.os=w.os
 tape:w'.tape=w.tape
 output:w'.output=w.output
 size:w.heap.size≤w'.heap.size
 block:∀ k,k < w.heap.size→¬ X k→w'.heap[k]? = w.heap[k]?
namespace Kp
variable {X Y:Nat→Prop}{w w' w'':World}
theorem refl (X:Nat→Prop) (w:World):Kp X w w:=⟨rfl,rfl,rfl,Nat.le_refl _,fun _ _ _=>rfl⟩
theorem trans (h:Kp X w w') (k:Kp Y w' w'') (hY:∀ y,Y y→X y∨w.heap.size≤y):Kp X w w'' :=
 ⟨k.os.trans h.os,k.tape.trans h.tape,k.output.trans h.output,Nat.le_trans h.size k.size,fun i hi hn=>(k.block i (Nat.lt_of_lt_of_le hi h.size) (fun hy=>(hY i hy).elim hn (fun h=>by omega))).trans (h.block i hi hn)⟩
theorem of_below {B:Nat}(h:Below B w w') (hB:w.heap.size≤B):Kp X w w':=⟨h.os,h.tape,h.output,h.size,fun k hk _=>h.block k (by omega)⟩
theorem below (h:Kp X w w'){B:Nat}(h1:B≤w.heap.size) (h2:∀ x,X x→B≤x):Below B w w':=⟨h.os,h.tape,h.output,h.size,fun k hk=>h.block k (by omega) (fun hx=>by have:=h2 k hx;omega)⟩
theorem mono (h:Kp X w w') (hY:∀ x,X x→Y x):Kp Y w w':=⟨h.os,h.tape,h.output,h.size,fun k hk hn=>h.block k hk (fun hx=>hn (hY k hx))⟩
theorem alloc (h:Kp X w w') (o:Obj):Kp X w (w'.alloc o):=h.trans (Y:=fun _=>False) (of_below ((Below.refl _ _).alloc (Nat.le_refl _) o) (Nat.le_refl _)) (fun _ h=>h.elim)
theorem drew (h:Kp X w w'):Kp X w w'.drew:=⟨h.os,h.tape,h.output,h.size,h.block⟩
theorem drewN (h:Kp X w w') (n:Nat):Kp X w (w'.drewN n):=⟨h.os,h.tape,h.output,h.size,h.block⟩
theorem setCell (h:Kp X w w'){p:Addr}(hp:X p.block∨w.heap.size≤p.block) (u:Value):Kp X w (w'.setCell p u) :=
 ⟨h.os,h.tape,h.output,by simpa [World.setCell] using h.size,fun k hk hn=>(Below.heap_setCell _ _ _ _ (fun e=>by
  rcases hp with hp | hp
  ·rw [e] at hn;exact hn hp
  ·omega)).trans (h.block k hk hn)⟩
theorem cell (h:Kp X w w'){c o:Nat}{v:Value}(hc:w.cell? ⟨c,o,none⟩=some v) (h2:¬ X c):w'.cell? ⟨c,o,none⟩=some v :=
 (World.cell?_of_block (a:=⟨c,o,none⟩) (h.block c (cell_lt hc) h2)).trans hc
theorem frz (h:Kp X w w'){c o:Nat}{b:Bool}(hc:w.frozen? ⟨c,o,none⟩=b) (hl:c < w.heap.size) (h2:¬ X c):w'.frozen? ⟨c,o,none⟩=b :=
 (World.frozen?_of_block (a:=⟨c,o,none⟩) (h.block c hl h2)).trans hc
theorem of_grown {row:Option Nat}(h:w.grownBy w' row) (hr:∀ k,row=some k→X k):Kp X w w':=⟨h.os,h.tape,h.output,h.size,fun k hk hn=>h.block k hk (fun e=>hn (hr k e.symm))⟩
theorem sl (h:Kp X w w'){α:Type}{size:Nat}{E:World→Nat→Nat→Nat→α→Prop}(hE:Mono E){B:Nat}{v:Value}{l:List α}(hs:Sl size E w B v l) (hB:B≤w.heap.size) (hX:∀ x,X x→B≤x):Sl size E w' B v l:=hs.mono hE (h.below hB hX) (Nat.le_refl _)
end Kp
def Blk (w:World) (b:Nat) (vs:List Value):Prop:=∀ j (h:j < vs.length),w.cell? ⟨b,j,none⟩=some vs[j]∧w.frozen? ⟨b,j,none⟩=false
theorem Blk.next {w w':World}{b:Nat}{vs:List Value}(h:Blk w b vs){X:Nat→Prop}(hk:Kp X w w') (hX:¬ X b):Blk w' b vs:=fun j hj =>
 ⟨hk.cell (h j hj).1 hX,hk.frz (h j hj).2 (cell_lt (h j hj).1) hX⟩
theorem Blk.lt {w:World}{b:Nat}{v:Value}{vs:List Value}(h:Blk w b (v :: vs)):b < w.heap.size:=cell_lt (h 0 (by simp)).1
theorem Blk.far {w:World}{b:Nat}{vs:List Value}(h:Blk w b vs){b2 o2:Nat}(hne:b2≠b) (x:Value):Blk (w.setCell ⟨b2,o2,none⟩ x) b vs :=
 h.next (X:=fun k=>k=b2) (Kp.setCell (Kp.refl (fun k=>k=b2) w) (p:=⟨b2,o2,none⟩) (.inl rfl) x) (fun e=>hne e.symm)
theorem Blk.set {w:World}{b:Nat}{vs:List Value}(h:Blk w b vs) (k:Nat) (hk:k < vs.length) (x:Value):Blk (w.setCell ⟨b,k,none⟩ x) b (vs.set k x):=fun j hj=>by
 have hj':j < vs.length:=by simpa using hj
 obtain ⟨h1,h2⟩:=h j hj'
 obtain ⟨g1,g2⟩:=h k hk
 by_cases e:j=k
 ·subst e
  rw [List.getElem_set_self]
  exact ⟨by go_simp,by rw [World.frozen?_setCell];exact h2⟩
 ·have hne:¬ ((⟨b,k,none⟩:Addr)=⟨b,j,none⟩):=by intro h;injection h with _ h;omega
  rw [List.getElem_set_ne (by omega)]
  exact ⟨by rw [World.cell?_setCell_other _ _ _ _ hne];exact h1,by rw [World.frozen?_setCell];exact h2⟩
theorem Blk.alloc {w:World}{b:Nat}{vs:List Value}(h:Blk w b vs) (o:Obj):Blk (w.alloc o) b vs:=h.next (X:=fun _=>False) ((Kp.refl _ _).alloc o) (fun e=>e)
theorem Blk.drew {w:World}{b:Nat}{vs:List Value}(h:Blk w b vs):Blk w.drew b vs:=h.next (X:=fun _=>False) (Kp.refl _ _).drew (fun e=>e)
theorem Blk.made (w:World) (cs:List Value) (t:TypeId):Blk (w.alloc (.cells cs.toArray t)) w.heap.size cs:=fun j hj =>
 ⟨by rw [World.cell?_alloc_new];simp [hj],World.frozen?_alloc_new ..⟩
theorem row_keep {w w':World}{base:Nat}{T:TypeId}{size n:Nat}{v:Value}{xs:List Value}{X:Nat→Prop}(h:w.ownsRow base T size v n xs) (hk:Kp X w w') (hX:∀ g,v.ownBlock=some g→¬ X g):w'.ownsRow base T size v n xs:=by
 refine ⟨h.1,?_⟩
 rcases h.2 with hn | ⟨g,cap,cur,rfl,hbg,hg,rest⟩
 ·exact .inl hn
 ·exact .inr ⟨g,cap,cur,rfl,hbg,by rw [hk.block g (Array.getElem?_eq_some_iff.1 hg).1 (hX g rfl)];exact hg,rest⟩
theorem row_alloc {w:World}{base:Nat}{T:TypeId}{size n:Nat}{v:Value}{xs:List Value}(h:w.ownsRow base T size v n xs) (o:Obj):(w.alloc o).ownsRow base T size v n xs:=h.alloc o
theorem row_drew {w:World}{base:Nat}{T:TypeId}{size n:Nat}{v:Value}{xs:List Value}(h:w.ownsRow base T size v n xs):w.drew.ownsRow base T size v n xs:=row_keep (X:=fun _=>False) h (Kp.refl _ _).drew (fun _ _ h=>h)
theorem row_cell {w:World}{base:Nat}{T:TypeId}{size n g cap:Nat}{xs:List Value}(h:w.ownsRow base T size (.slice (some ⟨g,0,none⟩) n cap) n xs){j:Nat}{u:Value}(hj:xs[j]? = some u):w.cell? ⟨g,j,none⟩=some u:=by
 have:=World.ownsRow.cells h (g:=g) rfl j u hj
 have hadd:(⟨g,0,none⟩:Addr).add j=⟨g,j,none⟩:=by unfold Addr.add;split <;> simp_all
 rw [hadd] at this;exact this
theorem row_free {w:World}{base:Nat}{T:TypeId}{size n g cap j:Nat}{xs:List Value}(h:w.ownsRow base T size (.slice (some ⟨g,0,none⟩) n cap) n xs):w.frozen? ⟨g,j,none⟩=false:=by
 rcases h.2 with hn | ⟨g',cap',cur,hv,_,hg,_⟩
 ·exact absurd hn.1 (by simp)
 ·simp only [Value.slice.injEq,Option.some.injEq,Addr.mk.injEq] at hv
  obtain ⟨⟨rfl,_⟩,_⟩:=hv
  simp [World.frozen?,hg]
theorem row_form {w:World}{base:Nat}{T:TypeId}{size n:Nat}{v:Value}{xs:List Value}(h:w.ownsRow base T size v n xs) (hn:0 < n):∃ g cap,v=.slice (some ⟨g,0,none⟩) n cap∧n≤cap∧cap≤9223372036854775807∧base≤g∧g < w.heap.size:=by
 have hl:=World.ownsRow.lt h
 rcases h.2 with ⟨_,h0⟩ | ⟨g,cap,cur,rfl,hb,_,h1,h2,_⟩
 ·omega
 ·exact ⟨g,cap,rfl,h1,h2,hb,(hl g rfl).2⟩
theorem row_any {w:World}{base:Nat}{T:TypeId}{size n:Nat}{v:Value}{xs:List Value}(h:w.ownsRow base T size v n xs):∃ a cap,v=.slice a n cap:=by
 rcases h.2 with ⟨hv,h0⟩ | ⟨g,cap,cur,rfl,_⟩
 ·subst h0;exact ⟨_,_,hv⟩
 ·exact ⟨_,_,rfl⟩
theorem row_set {w:World}{base:Nat}{T:TypeId}{size n g cap:Nat}{xs:List Value}(h:w.ownsRow base T size (.slice (some ⟨g,0,none⟩) n cap) n xs){j:Nat}(hj:j < xs.length) (u:Value):(w.setCell ⟨g,j,none⟩ u).ownsRow base T size (.slice (some ⟨g,0,none⟩) n cap) n (xs.set j u):=by
 refine ⟨by simpa using h.1,?_⟩
 rcases h.2 with hn | ⟨g',cap',cur,hv,hb,hg,h1,h2,h3,h4⟩
 ·exact absurd hn.1 (by simp)
 ·simp only [Value.slice.injEq,Option.some.injEq,Addr.mk.injEq] at hv
  obtain ⟨⟨rfl,_⟩,_,rfl⟩:=hv
  refine .inr ⟨g,cap,cur.setIfInBounds j u,rfl,hb,?_,h1,h2,by simpa using h3,?_⟩
  ·simp [World.setCell,Array.getElem?_modify,hg]
  ·rw [Array.toList_setIfInBounds,List.take_set,h4]
end Mem
namespace Hier
open D Num
def ty (n:Int) (t:Ty):Bool:=if t.kind=1∨t.kind=2 then decide (t.cls=0) else if t.kind=3 then decide (0≤t.cls∧t.cls < n) else false
def nil:Cls:=⟨0,[]⟩
def at' (l:List Cls) (i:Nat):Cls:=l.getD i nil
def supOk (i:Nat) (s:Int):Bool:=if i=0 then decide (s = -1) else decide (0≤s∧s < i)
def cls (n:Int) (i:Nat) (c:Cls):Bool:=supOk i c.sup && decide (c.fields.length≤6) && c.fields.all (ty n)
def may (l:List Cls):Bool:=decide (4≤l.length∧l.length≤12) && (List.range l.length).all fun i=>cls l.length i (at' l i)
theorem at_eq {l:List Cls}{i:Nat}(h:i < l.length):at' l i=l[i]:=by simp [at',h]
theorem may_iff (l:List Cls):may l=true↔(4≤l.length∧l.length≤12)∧∀ i (h:i < l.length),cls l.length i l[i]=true:=by
 unfold may
 rw [Bool.and_eq_true,decide_eq_true_eq,List.all_eq_true]
 constructor
 ·rintro ⟨h1,h2⟩
  exact ⟨h1,fun i h=>by rw [← at_eq h];exact h2 i (by simpa using h)⟩
 ·rintro ⟨h1,h2⟩
  exact ⟨h1,fun i h=>by
                             have h':i < l.length:=by simpa using h
                             rw [at_eq h'];exact h2 i h'⟩
theorem may_false_len {l:List Cls}(h:¬ (4≤l.length∧l.length≤12)):may l=false:=by
 rw [Bool.eq_false_iff];intro h';exact h ((may_iff l).1 h').1
theorem may_false_at {l:List Cls}{i:Nat}(h:i < l.length) (hc:cls l.length i l[i]=false):may l=false:=by
 rw [Bool.eq_false_iff];intro h';rw [((may_iff l).1 h').2 i h] at hc;cases hc
def sup (l:List Cls) (c:Int):Int:=(at' l c.toNat).sup
def Wf (l:List Cls):Prop:=∀ i:Nat,i < l.length→-1≤(at' l i).sup∧(at' l i).sup < i
theorem wf_of_may {l:List Cls}(h:may l=true):Wf l:=by
 intro i hi
 have:=((may_iff l).1 h).2 i hi
 rw [at_eq hi]
 simp only [cls,supOk,Bool.and_eq_true] at this
 obtain ⟨⟨h1,_⟩,_⟩:=this
 split at h1 <;> simp only [decide_eq_true_eq] at h1 <;> omega
def upN:Nat→List Cls→Int→List Int
 | 0,_,_=>[]
 | k+1,l,c=>if 0≤c∧c < l.length then c :: upN k l (sup l c) else []
def up (l:List Cls) (c:Int):List Int:=upN (l.length+1) l c
theorem upN_more {l:List Cls}(hw:Wf l):∀ (k m:Nat) (c:Int),c < k→c < m→upN k l c=upN m l c:=by
 intro k
 induction k with
 | zero =>
  intro m c h1 h2
  cases m with
  | zero=>rfl
  | succ m=>rw [upN,upN,if_neg (by omega)]
 | succ k ih =>
  intro m c h1 h2
  cases m with
  | zero=>rw [upN,upN,if_neg (by omega)]
  | succ m =>
   rw [upN,upN]
   split
   ·rename_i h
    have:=hw c.toNat (by omega)
    rw [ih m (sup l c) (by unfold sup;omega) (by unfold sup;omega)]
   ·rfl
theorem up_out {l:List Cls}{c:Int}(h:¬ (0≤c∧c < l.length)):up l c=[]:=by
 rw [up,upN,if_neg h]
theorem up_in {l:List Cls}(hw:Wf l){c:Int}(h:0≤c∧c < l.length):up l c=c :: up l (sup l c):=by
 have:=hw c.toNat (by omega)
 rw [up,upN,if_pos h]
 congr 1
 exact upN_more hw _ _ _ (by unfold sup;omega) (by unfold sup;omega)
def is (l:List Cls) (c d:Int):Bool:=(up l c).contains d
def below (l:List Cls) (c d:Int):Bool:=may l && is l c d
theorem is_out {l:List Cls}{c d:Int}(h:¬ (0≤c∧c < l.length)):is l c d=false:=by rw [is,up_out h];rfl
theorem is_in {l:List Cls}(hw:Wf l){c d:Int}(h:0≤c∧c < l.length):is l c d=(decide (d=c) || is l (sup l c) d):=by
 rw [is,up_in hw h,List.contains_cons,is]
 congr 1
def refN:Nat→List Cls→Int→Int→Int
 | 0,_,c,_=>c
 | k+1,l,c,d=>if d < c then refN k l (sup l c) d else c
def refBelow (l:List Cls) (c d:Int):Bool:=if c < 0∨d < 0∨(l.length:Int)≤c∨(l.length:Int)≤d then false else decide (refN (c.toNat+1) l c d=d)
theorem is_le {l:List Cls}(hw:Wf l):∀ (k:Nat) (c d:Int),c < k→is l c d=true→0≤d∧d≤c:=by
 intro k
 induction k with
 | zero=>intro c d h1 h2;rw [is_out (by omega)] at h2;cases h2
 | succ k ih =>
  intro c d h1 h2
  by_cases h:0≤c∧c < l.length
  ·rw [is_in hw h,Bool.or_eq_true,decide_eq_true_eq] at h2
   have:=hw c.toNat (by omega)
   rcases h2 with h2 | h2
   ·omega
   ·have:=ih (sup l c) d (by unfold sup;omega) h2
    unfold sup at this;omega
  ·rw [is_out h] at h2;cases h2
theorem is_le' {l:List Cls}(hw:Wf l){c d:Int}(h:is l c d=true):0≤d∧d≤c:=is_le hw (c.toNat+1) c d (by omega) h
theorem is_lt {l:List Cls}{c d:Int}(h:is l c d=true):0≤c∧c < l.length:=by
 by_cases h':0≤c∧c < l.length
 ·exact h'
 ·rw [is_out h'] at h;cases h
theorem refN_eq {l:List Cls}(hw:Wf l):∀ (k:Nat) (c d:Int),c < k→0≤d→c < l.length→decide (refN k l c d=d)=is l c d:=by
 intro k
 induction k with
 | zero=>intro c d h1 h2 _;rw [is_out (by omega),refN,decide_eq_false (by omega)]
 | succ k ih =>
  intro c d h1 h2 h3
  rw [refN]
  by_cases hlt:d < c
  ·rw [if_pos hlt,is_in hw (by omega),show decide (d=c)=false from decide_eq_false (by omega),Bool.false_or]
   have:=hw c.toNat (by omega)
   exact ih _ _ (by unfold sup;omega) h2 (by unfold sup;omega)
  ·rw [if_neg hlt]
   by_cases h0:0≤c
   ·rw [is_in hw (by omega)]
    by_cases e:d=c
    ·subst e;simp
    ·rw [decide_eq_false (by omega),decide_eq_false e,Bool.false_or]
     cases hi:is l (sup l c) d with
     | false=>rfl
     | true =>
      have:=is_le' hw hi
      have:=hw c.toNat (by omega)
      unfold sup at *;omega
   ·rw [is_out (by omega),decide_eq_false (by omega)]
theorem refBelow_eq {l:List Cls}(hw:Wf l) (c d:Int):refBelow l c d=is l c d:=by
 unfold refBelow
 split
 ·rename_i h
  cases hi:is l c d with
  | false=>rfl
  | true =>
   have h1:=is_lt hi
   have h2:=is_le' hw hi
   omega
 ·exact refN_eq hw _ _ _ (by omega) (by omega) (by omega)
end Hier
namespace Form
open D Num
def slots:List Ty→Nat
 | []=>0
 | t :: l=>(if t.kind=2 then 2 else 1)+slots l
theorem slots_snoc (l:List Ty) (t:Ty):slots (l++[t])=slots l+(if t.kind=2 then 2 else 1):=by
 induction l with
 | nil=>simp [slots]
 | cons a l ih=>simp only [List.cons_append,slots,ih];omega
theorem slots_take {l:List Ty}{k:Nat}(h:k < l.length):slots (l.take (k+1))=slots (l.take k)+(if l[k].kind=2 then 2 else 1):=by
 rw [List.take_succ_eq_append_getElem h,slots_snoc]
theorem slots_le (l:List Ty):slots l≤2*l.length:=by
 induction l with
 | nil=>simp [slots]
 | cons a l ih=>simp only [slots,List.length_cons];split <;> omega
def wide (k:Int):Int:=if k=2 then 2 else 1
def rng (n lo hi:Int):Bool:=decide (lo≤n∧n < hi)
def nf (l:List Cls) (c:Int):Int:=(Hier.at' l c.toNat).fields.length
def hd (nc ncode:Int) (h:Hd):Bool:=decide (0≤h.lo∧h.lo < h.hi∧h.hi≤ncode) && rng h.go 0 ncode && rng h.cls 0 nc
def ret (nc:Int) (t:Ty):Bool:=decide (t.kind=0∧t.cls=0) || Hier.ty nc t
def head (nc:Int) (m:Me) (most:Int):Bool :=
 m.params.all (Hier.ty nc) && m.handlers.all (hd nc m.code.length) && decide (m.params.length≤4) && ret nc m.ret && rng m.code.length 1 (most+1) && decide (m.handlers.length≤8)
def sa (cl:List Cls) (nm ncode locals:Int) (i:Ins):Bool :=
 if i.op=4∨i.op=5 then rng i.a 0 (locals+1 - wide i.b)
 else if i.op=6∨i.op=7 then rng i.a 1 9
 else if i.op=11∨i.op=12∨i.op=13 then rng i.a 0 ncode
 else if i.op=14∨i.op=15∨i.op=16∨i.op=17∨i.op=18 then rng i.a 0 cl.length
 else if i.op=19 then rng i.a 0 nm
 else if i.op=24 then rng i.a 1 3
 else if 1≤i.op∧i.op≤25 then decide (i.a=0)
 else false
def sb (cl:List Cls) (i:Ins):Bool :=
 if i.op=4∨i.op=5 then rng i.b 1 4
 else if i.op=12 then rng i.b 1 5
 else if i.op=15∨i.op=16 then rng i.a 0 cl.length && rng i.b 0 (nf cl i.a)
 else decide (i.b=0)
def sn (i:Ins):Bool :=
 if i.op=1 then decide (wrap32 i.n=i.n) else if i.op=2 then true else decide (i.n=0)
def sins (cl:List Cls) (nm ncode locals:Int) (i:Ins):Bool :=
 sa cl nm ncode locals i && sb cl i && sn i && decide (i.c=0) && decide (i.args.length=0)
def sme (f:Fi) (m:Me):Bool :=
 head f.classes.length m 400 && decide (m.regs=0) && rng m.stack 0 31 && rng m.locals (slots m.params) 61 && m.code.all (sins f.classes f.methods.length m.code.length m.locals)
def smay (f:Fi):Bool:=Hier.may f.classes && rng f.methods.length 1 9 && f.methods.all (sme f)
theorem head_param {nc:Int}{m:Me}{most:Int}{k:Nat}(h:k < m.params.length) (hf:Hier.ty nc m.params[k]=false):head nc m most=false:=by
 have:m.params.all (Hier.ty nc)=false:=by rw [List.all_eq_false];exact ⟨_,List.getElem_mem h,by rw [hf];simp⟩
 simp [head,this]
theorem head_hd {nc:Int}{m:Me}{most:Int}{k:Nat}(h:k < m.handlers.length) (hf:hd nc m.code.length m.handlers[k]=false):head nc m most=false:=by
 have:m.handlers.all (hd nc m.code.length)=false:=by rw [List.all_eq_false];exact ⟨_,List.getElem_mem h,by rw [hf];simp⟩
 simp [head,this]
theorem all_of {α:Type}{l:List α}{p:α→Bool}(h:∀ j (hj:j < l.length),p l[j]=true):l.all p=true:=by
 rw [List.all_eq_true]
 intro x hx
 obtain ⟨j,hj,rfl⟩:=List.getElem_of_mem hx
 exact h j hj
theorem all_not {α:Type}{l:List α}{p:α→Bool}{k:Nat}(h:k < l.length) (hf:p l[k]=false):l.all p=false:=by
 rw [List.all_eq_false];exact ⟨_,List.getElem_mem h,by rw [hf];simp⟩
theorem all_step {α:Type}{l:List α}{p:α→Bool}{k:Nat}(hall:∀ j (h:j < l.length),j < k→p l[j]=true) (hlt:k < l.length) (hc:p l[k]=true):∀ j (h:j < l.length),j < k+1→p l[j]=true:=fun j h hj=>by
 by_cases e:j=k
 ·subst e;exact hc
 ·exact hall j h (by omega)
theorem head_rest {nc:Int}{m:Me}{most:Int}(h1:m.params.all (Hier.ty nc)=true) (h2:m.handlers.all (hd nc m.code.length)=true) :
  head nc m most=(decide (m.params.length≤4) && ret nc m.ret && rng m.code.length 1 (most+1) && decide (m.handlers.length≤8)):=by
 simp only [head,h1,h2,Bool.true_and]
end Form
namespace Run
open D Num
structure Vl where
 kind:Int
 n:Int
def Vl.nil:Vl:=⟨0,0⟩
structure Ob where
 cls:Int
 held:List ((Int × Int) × Vl)
structure Hp where
 objs:List Ob
 out:List Int
 used:Nat
 steps:Nat
inductive Res (α:Type) where
 | ok (a:α) (h:Hp)
 | thrown (o:Nat) (h:Hp)
 | stop (e:Int) (h:Hp)
def Res.bind {α β:Type}(r:Res α) (k:α→Hp→Res β):Res β :=
 match r with
 | .ok a h=>k a h
 | .thrown o h=>.thrown o h
 | .stop e h=>.stop e h
def ftype (l:List Cls) (c k:Int):Ty:=(Hier.at' l c.toNat).fields.getD k.toNat ⟨0,0⟩
def zero (t:Ty):Vl:=if t.kind=3 then ⟨3,-1⟩ else ⟨t.kind,0⟩
def fieldsOf (c:Nat) (l:List Ty):List ((Int × Int) × Vl):=(List.range l.length).map fun (k:Nat)=>(((c:Int),(k:Int)),zero (l.getD k ⟨0,0⟩))
def fresh (l:List Cls) (class_:Int):List ((Int × Int) × Vl):=(List.range l.length).flatMap fun (c:Nat)=>if Hier.is l class_ c then fieldsOf c (Hier.at' l c).fields else []
def obj (h:Hp) (n:Int):Ob:=h.objs.getD n.toNat ⟨0,[]⟩
def find (l:List ((Int × Int) × Vl)) (k:Int × Int):Vl:=((l.find? fun x=>decide (x.1=k)).map (·.2)).getD Vl.nil
def become (l:List ((Int × Int) × Vl)) (k:Int × Int) (v:Vl):List ((Int × Int) × Vl):=l.map fun x=>if x.1=k then (k,v) else x
def new (l:List Cls) (class_:Int) (h:Hp):Res Vl :=
 if 100≤h.objs.length then .stop 4 h else .ok ⟨3,h.objs.length⟩ { h with objs:=h.objs++[⟨class_,fresh l class_⟩] }
def raise {α:Type}(l:List Cls) (class_:Int) (h:Hp):Res α :=
 (new l class_ h).bind fun v h=>.thrown v.n.toNat h
def ofT (l:List Cls) (h:Hp) (v:Vl) (t:Ty):Bool :=
 decide (v.kind=t.kind) && (decide (t.kind≠3) || decide (v.n < 0) || Hier.is l (obj h v.n).cls t.cls)
def throw {α:Type}(l:List Cls) (v:Vl) (h:Hp):Res α :=
 if v.kind≠3 then .stop 6 h else if v.n < 0 then raise l 1 h else .thrown v.n.toNat h
def get (l:List Cls) (ref:Vl) (class_ field:Int) (h:Hp):Res Vl :=
 if ofT l h ref ⟨3,class_⟩=false then .stop 6 h else if ref.n < 0 then raise l 1 h else .ok (find (obj h ref.n).held (class_,field)) h
def put (l:List Cls) (ref:Vl) (class_ field:Int) (v:Vl) (t:Ty) (h:Hp):Res Unit :=
 if ofT l h v t=false then .stop 6 h else if ofT l h ref ⟨3,class_⟩=false then .stop 6 h else if ref.n < 0 then raise l 1 h
 else .ok () { h with objs:=h.objs.set ref.n.toNat ⟨(obj h ref.n).cls,become (obj h ref.n).held (class_,field) v⟩ }
def cast (l:List Cls) (v:Vl) (class_:Int) (h:Hp):Res Unit :=
 if v.kind≠3 then .stop 6 h else if ofT l h v ⟨3,class_⟩=false then raise l 3 h else .ok () h
def isV (l:List Cls) (v:Vl) (class_:Int) (h:Hp):Res Vl :=
 if v.kind≠3 then .stop 6 h else .ok ⟨1,if 0≤v.n∧Hier.is l (obj h v.n).cls class_=true then 1 else 0⟩ h
def numOf (kind op a b:Int):Int × Bool:=if kind=1 then Num.int op a b else Num.long op a b
def reckon (l:List Cls) (a b:Vl) (kind op:Int) (h:Hp):Res Vl :=
 if a.kind≠kind∨b.kind≠kind then .stop 6 h else if (numOf kind op a.n b.n).2=false then raise l 2 h else .ok ⟨kind,(numOf kind op a.n b.n).1⟩ h
def emit (v:Vl) (kind:Int) (h:Hp):Res Unit :=
 if v.kind≠kind then .stop 6 h else .ok () { h with out:=h.out++[v.n] }
def takeIn (input:List Int) (h:Hp):Res Vl :=
 if input.length≤h.used then .stop 3 h else .ok ⟨2,input.getD h.used 0⟩ { h with used:=h.used+1 }
def lose (l:List Vl) (at_:Nat):List Vl :=
 if (l.getD at_ Vl.nil).kind=9 then (l.set (at_ - 1) Vl.nil).set at_ Vl.nil
 else if (l.getD at_ Vl.nil).kind=2 then (l.set (at_+1) Vl.nil).set at_ Vl.nil
 else l.set at_ Vl.nil
def store (l:List Vl) (at_:Nat) (v:Vl):List Vl :=
 if v.kind=2 then ((lose (lose l at_) (at_+1)).set (at_+1) ⟨9,0⟩).set at_ v else (lose l at_).set at_ v
def width (v:Vl):Nat:=if v.kind=2 then 2 else 1
def size:List Vl→Nat
 | []=>0
 | v :: l=>width v+size l
def stores:List Vl→Nat→List Vl→List Vl
 | l,_,[]=>l
 | l,at_,v :: vs=>stores (store l at_ v) (at_+width v) vs
inductive Act (Fr:Type) where
 | go (fr:Fr) (h:Hp)
 | back (v:Vl) (h:Hp)
 | thrown (o:Nat) (h:Hp)
 | stop (e:Int) (h:Hp)
 | call (k:Nat) (args:List Vl) (fr:Fr) (h:Hp)
def Res.act {α Fr:Type}(r:Res α) (k:α→Hp→Act Fr):Act Fr :=
 match r with
 | .ok a h=>k a h
 | .thrown o h=>.thrown o h
 | .stop e h=>.stop e h
structure Mach (Fr:Type) where
 at_:Fr→Nat
 enter:Me→List Vl→Fr
 step:Fi→List Int→Me→Ins→Fr→Hp→Act Fr
 resume:Me→Me→Fr→Vl→Option Fr
 caught:Me→Fr→Nat→Nat→Option Fr
def nilMe:Me:=⟨[],⟨0,0⟩,0,0,0,[],[]⟩
def meAt (f:Fi) (k:Nat):Me:=f.methods.getD k nilMe
def handler (l:List Cls) (m:Me) (at_:Nat) (cls:Int):Option Hd:=m.handlers.find? fun x=>decide (x.lo≤at_) && decide ((at_:Int) < x.hi) && Hier.is l cls x.cls
def allOf (l:List Cls) (h:Hp):List Vl→List Ty→Bool
 | v :: vs,t :: ts=>ofT l h v t && allOf l h vs ts
 | _,[]=>true
 | [],_ :: _=>false
inductive Next (Fr:Type) where
 | go (fr:Fr)
 | thrown
 | stuck
def after {Fr:Type}(M:Mach Fr) (f:Fi) (m:Me) (fr:Fr) (o:Nat) (h:Hp):Next Fr :=
 match handler f.classes m (M.at_ fr) (obj h o).cls with
 | none=>.thrown
 | some x=>match M.caught m fr x.go.toNat o with
  | none=>.stuck
  | some fr=>.go fr
def loop {Fr:Type}(M:Mach Fr) (f:Fi) (input:List Int) (fuel:Nat):Nat→Nat→Me→Fr→Hp→Res Vl
 | 0,_,_,_,h=>.stop 0 h
 | g+1,d,m,fr,h =>
  if fuel≤h.steps then .stop 0 h
  else match m.code[M.at_ fr]? with
  | none=>.stop 6 { h with steps:=h.steps+1 }
  | some i=>match M.step f input m i fr { h with steps:=h.steps+1 } with
   | .stop e h=>.stop e h
   | .back v h=>.ok v h
   | .go fr h=>loop M f input fuel g d m fr h
   | .thrown o h=>match after M f m fr o h with
    | .go fr=>loop M f input fuel g d m fr h
    | .thrown=>.thrown o h
    | .stuck=>.stop 6 h
   | .call k args fr h =>
    if allOf f.classes h args (meAt f k).params=false then .stop 6 h
    else if 20≤d then .stop 5 h
    else match loop M f input fuel g (d+1) (meAt f k) (M.enter (meAt f k) args) h with
     | .stop e h=>.stop e h
     | .ok v h=>match M.resume m (meAt f k) fr v with
      | none=>.stop 6 h
      | some fr=>loop M f input fuel g d m fr h
     | .thrown o h=>match after M f m fr o h with
      | .go fr=>loop M f input fuel g d m fr h
      | .thrown=>.thrown o h
      | .stuck=>.stop 6 h
def call {Fr:Type}(M:Mach Fr) (f:Fi) (input:List Int) (fuel g d:Nat) (m:Me) (args:List Vl) (h:Hp):Res Vl :=
 if allOf f.classes h args m.params=false then .stop 6 h
 else if 20≤d then .stop 5 h
 else loop M f input fuel g (d+1) m (M.enter m args) h
theorem loop_call {Fr:Type}(M:Mach Fr) (f:Fi) (input:List Int) (fuel g d:Nat) (m:Me) (fr:Fr) (h:Hp) (hs:h.steps < fuel){i:Ins}(hi:m.code[M.at_ fr]? = some i){k:Nat}{args:List Vl}{fr':Fr}{h':Hp}
  (hst:M.step f input m i fr { h with steps:=h.steps+1 } = .call k args fr' h') :
  loop M f input fuel (g+1) d m fr h=match call M f input fuel g d (meAt f k) args h' with
   | .stop e h=>.stop e h
   | .ok v h=>match M.resume m (meAt f k) fr' v with
    | none=>.stop 6 h
    | some fr=>loop M f input fuel g d m fr h
   | .thrown o h=>match after M f m fr' o h with
    | .go fr=>loop M f input fuel g d m fr h
    | .thrown=>.thrown o h
    | .stuck=>.stop 6 h:=by
 rw [loop,if_neg (by omega),hi]
 simp only [hst,call]
 cases allOf f.classes h' args (meAt f k).params
 ·simp
 ·by_cases hd:20≤d
  ·simp [hd]
  ·simp [hd]
structure Sh where
 fin:Int
 value:Int
 cls:Int
 out:List Int
 used:Int
 steps:Int
def Sh.nil:Sh:=⟨0,0,0,[],0,0⟩
def shown (r:Res Vl):Sh :=
 match r with
 | .ok v h=>⟨1,if v.kind=1∨v.kind=2 then v.n else 0,0,h.out,h.used,h.steps⟩
 | .thrown o h=>⟨2,0,(obj h o).cls,h.out,h.used,h.steps⟩
 | .stop e h=>⟨e,0,0,h.out,h.used,h.steps⟩
def argOf (t:Ty) (n:Int):Vl:=if t.kind=1 then ⟨1,wrap32 n⟩ else ⟨t.kind,n⟩
def begin_ (f:Fi) (entry:Int) (args input:List Int) (fuel:Int):Int :=
 if entry < 0∨(f.methods.length:Int)≤entry∨fuel < 0∨60000 < fuel then 4
 else if 1000 < input.length then 1
 else if args.length≠(meAt f entry.toNat).params.length∨(meAt f entry.toNat).params.any (fun t=>decide (t.kind=3))=true then 3
 else 0
def play {Fr:Type}(M:Mach Fr) (f:Fi) (entry:Int) (args input:List Int) (fuel:Int):Sh × Int :=
 if begin_ f entry args input fuel≠0 then (Sh.nil,begin_ f entry args input fuel)
 else (shown (call M f input fuel.toNat (fuel.toNat+1) 0 (meAt f entry.toNat) (List.zipWith argOf (meAt f entry.toNat).params args) ⟨[],[],0,0⟩),0)
structure Sf where
 loc:List Vl
 stk:List Vl
 at_:Nat
def top (l:List Vl):Vl:=l.getLast?.getD Vl.nil
def push (m:Me) (fr:Sf) (st:List Vl) (v:Vl) (h:Hp):Act Sf :=
 if (size (st++[v]):Int)≤m.stack then .go ⟨fr.loc,st++[v],fr.at_+1⟩ h else .stop 6 h
def pop1 (fr:Sf) (h:Hp) (k:Vl→List Vl→Act Sf):Act Sf :=
 if fr.stk=[] then .stop 6 h else k (top fr.stk) fr.stk.dropLast
def pop2 (fr:Sf) (h:Hp) (k:Vl→Vl→List Vl→Act Sf):Act Sf :=
 pop1 fr h fun b st=>if st=[] then .stop 6 h else k (top st) b st.dropLast
def kindly (v:Vl) (kind:Int) (h:Hp) (k:Act Sf):Act Sf:=if v.kind=kind then k else .stop 6 h
def on (fr:Sf) (st:List Vl) (at_:Nat):Sf:=⟨fr.loc,st,at_⟩
def s4 (m:Me) (i:Ins) (fr:Sf) (h:Hp):Act Sf:=kindly (fr.loc.getD i.a.toNat Vl.nil) i.b h (push m fr fr.stk (fr.loc.getD i.a.toNat Vl.nil) h)
def s5 (i:Ins) (fr:Sf) (h:Hp):Act Sf:=pop1 fr h fun v st=>kindly v i.b h (.go ⟨store fr.loc i.a.toNat v,st,fr.at_+1⟩ h)
def s67 (l:List Cls) (m:Me) (kind:Int) (i:Ins) (fr:Sf) (h:Hp):Act Sf:=pop2 fr h fun a b st=>(reckon l a b kind i.a h).act fun v h=>push m fr st v h
def s8 (m:Me) (fr:Sf) (h:Hp):Act Sf:=pop1 fr h fun v st=>kindly v 1 h (push m fr st ⟨2,v.n⟩ h)
def s9 (m:Me) (fr:Sf) (h:Hp):Act Sf:=pop1 fr h fun v st=>kindly v 2 h (push m fr st ⟨1,wrap32 v.n⟩ h)
def s10 (m:Me) (fr:Sf) (h:Hp):Act Sf:=pop2 fr h fun a b st=>kindly b 2 h (kindly a 2 h (push m fr st ⟨1,Num.cmp a.n b.n⟩ h))
def s12 (i:Ins) (fr:Sf) (h:Hp):Act Sf:=pop1 fr h fun v st=>kindly v 1 h (.go (on fr st (if Num.holds i.b v.n then i.a.toNat else fr.at_+1)) h)
def s13 (i:Ins) (fr:Sf) (h:Hp):Act Sf:=pop1 fr h fun v st=>kindly v 3 h (.go (on fr st (if v.n < 0 then i.a.toNat else fr.at_+1)) h)
def s14 (l:List Cls) (m:Me) (i:Ins) (fr:Sf) (h:Hp):Act Sf:=(new l i.a h).act fun v h=>push m fr fr.stk v h
def s15 (l:List Cls) (m:Me) (i:Ins) (fr:Sf) (h:Hp):Act Sf:=pop1 fr h fun v st=>(get l v i.a i.b h).act fun v h=>push m fr st v h
def s16 (l:List Cls) (i:Ins) (fr:Sf) (h:Hp):Act Sf:=pop2 fr h fun r v st=>kindly r 3 h ((put l r i.a i.b v (ftype l i.a i.b) h).act fun _ h=>.go (on fr st (fr.at_+1)) h)
def s17 (l:List Cls) (m:Me) (i:Ins) (fr:Sf) (h:Hp):Act Sf:=pop1 fr h fun v st=>(cast l v i.a h).act fun _ h=>push m fr st v h
def s18 (l:List Cls) (m:Me) (i:Ins) (fr:Sf) (h:Hp):Act Sf:=pop1 fr h fun v st=>(isV l v i.a h).act fun v h=>push m fr st v h
def s19 (f:Fi) (i:Ins) (fr:Sf) (h:Hp):Act Sf :=
 if fr.stk.length < (meAt f i.a.toNat).params.length then .stop 6 h
 else .call i.a.toNat (fr.stk.drop (fr.stk.length - (meAt f i.a.toNat).params.length)) (on fr (fr.stk.take (fr.stk.length - (meAt f i.a.toNat).params.length)) fr.at_) h
def s20 (l:List Cls) (m:Me) (fr:Sf) (h:Hp):Act Sf :=
 if m.ret.kind=0 then .back Vl.nil h else pop1 fr h fun v _=>if ofT l h v m.ret then .back v h else .stop 6 h
def s21 (l:List Cls) (fr:Sf) (h:Hp):Act Sf:=pop1 fr h fun v _=>(throw l v h).act fun (_:Unit) h=>.stop 6 h
def s22 (fr:Sf) (h:Hp):Act Sf:=pop1 fr h fun _ st=>.go (on fr st (fr.at_+1)) h
def s23 (m:Me) (fr:Sf) (h:Hp):Act Sf:=pop1 fr h fun v st=>if (size (st++[v,v]):Int)≤m.stack then .go (on fr (st++[v,v]) (fr.at_+1)) h else .stop 6 h
def s24 (i:Ins) (fr:Sf) (h:Hp):Act Sf:=pop1 fr h fun v st=>(emit v i.a h).act fun _ h=>.go (on fr st (fr.at_+1)) h
def s25 (m:Me) (input:List Int) (fr:Sf) (h:Hp):Act Sf:=(takeIn input h).act fun v h=>push m fr fr.stk v h
def sstep (f:Fi) (input:List Int) (m:Me) (i:Ins) (fr:Sf) (h:Hp):Act Sf :=
 if i.op=1 then push m fr fr.stk ⟨1,i.n⟩ h
 else if i.op=2 then push m fr fr.stk ⟨2,i.n⟩ h
 else if i.op=3 then push m fr fr.stk ⟨3,-1⟩ h
 else if i.op=4 then s4 m i fr h
 else if i.op=5 then s5 i fr h
 else if i.op=6 then s67 f.classes m 1 i fr h
 else if i.op=7 then s67 f.classes m 2 i fr h
 else if i.op=8 then s8 m fr h
 else if i.op=9 then s9 m fr h
 else if i.op=10 then s10 m fr h
 else if i.op=11 then .go (on fr fr.stk i.a.toNat) h
 else if i.op=12 then s12 i fr h
 else if i.op=13 then s13 i fr h
 else if i.op=14 then s14 f.classes m i fr h
 else if i.op=15 then s15 f.classes m i fr h
 else if i.op=16 then s16 f.classes i fr h
 else if i.op=17 then s17 f.classes m i fr h
 else if i.op=18 then s18 f.classes m i fr h
 else if i.op=19 then s19 f i fr h
 else if i.op=20 then s20 f.classes m fr h
 else if i.op=21 then s21 f.classes fr h
 else if i.op=22 then s22 fr h
 else if i.op=23 then s23 m fr h
 else if i.op=24 then s24 i fr h
 else if i.op=25 then s25 m input fr h
 else .stop 6 h
def sresume (m callee:Me) (fr:Sf) (v:Vl):Option Sf :=
 if callee.ret.kind=0 then some (on fr fr.stk (fr.at_+1))
 else if (size (fr.stk++[v]):Int)≤m.stack then some (on fr (fr.stk++[v]) (fr.at_+1)) else none
def scaught (m:Me) (fr:Sf) (at_ o:Nat):Option Sf:=if 1≤m.stack then some (on fr [⟨3,o⟩] at_) else none
def senter (m:Me) (args:List Vl):Sf:=⟨stores (List.replicate m.locals.toNat Vl.nil) 0 args,[],0⟩
def SM:Mach Sf:=⟨Sf.at_,senter,sstep,sresume,scaught⟩
structure Rf where
 regs:List Vl
 at_:Nat
 given:Vl
 got:Vl
def rd (fr:Rf) (a:Int):Vl:=fr.regs.getD a.toNat Vl.nil
def rkind (v:Vl) (kind:Int) (h:Hp) (k:Act Rf):Act Rf:=if v.kind=kind then k else .stop 6 h
def rset (fr:Rf) (a:Int) (v:Vl) (h:Hp):Act Rf:=.go ⟨store fr.regs a.toNat v,fr.at_+1,Vl.nil,Vl.nil⟩ h
def r4 (i:Ins) (fr:Rf) (h:Hp):Act Rf:=rkind (rd fr i.b) i.c h (rset fr i.a (rd fr i.b) h)
def r7 (i:Ins) (fr:Rf) (h:Hp):Act Rf:=rkind (rd fr i.b) 1 h (rset fr i.a ⟨2,(rd fr i.b).n⟩ h)
end Run
namespace Run
open D Num
def VlOk (n:Nat) (v:Vl):Prop:=Ok v.n∧0≤v.kind∧v.kind≤9∧(v.kind=3→-1≤v.n∧v.n < n)
def VtOk (n:Nat) (v:Vl):Prop:=VlOk n v∧1≤v.kind∧v.kind≤3
def kd (l:List Vl) (i:Nat):Int:=(l.getD i Vl.nil).kind
def Paired (l:List Vl):Prop:=(∀ i,kd l i=2→kd l (i+1)=9)∧(∀ i,kd l i=9→0 < i∧kd l (i - 1)=2)
structure SlotsOk (n:Nat) (l:List Vl):Prop where
 vals:∀ i,VlOk n (l.getD i Vl.nil)
 pair:Paired l
def StkOk (n:Nat) (l:List Vl):Prop:=∀ v∈l,VtOk n v
theorem nil_ok (n:Nat):VlOk n Vl.nil:=⟨by simp [Ok,Vl.nil],by simp [Vl.nil],by simp [Vl.nil],by simp [Vl.nil]⟩
theorem VlOk.mono {n m:Nat}{v:Vl}(h:VlOk n v) (hm:n≤m):VlOk m v:=⟨h.1,h.2.1,h.2.2.1,fun e=>⟨(h.2.2.2 e).1,by have:=(h.2.2.2 e).2;omega⟩⟩
theorem VtOk.mono {n m:Nat}{v:Vl}(h:VtOk n v) (hm:n≤m):VtOk m v:=⟨h.1.mono hm,h.2⟩
theorem SlotsOk.mono {n m:Nat}{l:List Vl}(h:SlotsOk n l) (hm:n≤m):SlotsOk m l:=⟨fun i=>(h.vals i).mono hm,h.pair⟩
theorem StkOk.mono {n m:Nat}{l:List Vl}(h:StkOk n l) (hm:n≤m):StkOk m l:=fun v hv=>(h v hv).mono hm
theorem getD_set (l:List Vl) (j i:Nat) (x:Vl):(l.set j x).getD i Vl.nil=if i=j∧j < l.length then x else l.getD i Vl.nil:=by
 rw [List.getD_eq_getElem?_getD,List.getD_eq_getElem?_getD,List.getElem?_set]
 by_cases e:j=i
 ·subst e
  by_cases h:j < l.length
  ·simp [h]
  ·simp [h]
 ·have e':¬ i=j:=fun h=>e h.symm
  simp [e,e']
theorem getD_out {l:List Vl}{i:Nat}(h:l.length≤i):l.getD i Vl.nil=Vl.nil:=by
 rw [List.getD_eq_getElem?_getD,List.getElem?_eq_none h];rfl
theorem set_nil (l:List Vl) (j i:Nat):(l.set j Vl.nil).getD i Vl.nil=if i=j then Vl.nil else l.getD i Vl.nil:=by
 rw [getD_set]
 by_cases e:i=j
 ·subst e
  by_cases h:i < l.length
  ·simp [h]
  ·rw [if_neg (by omega),if_pos rfl,getD_out (by omega)]
 ·rw [if_neg (by omega),if_neg e]
theorem lose_len (l:List Vl) (a:Nat):(lose l a).length=l.length:=by
 unfold lose;split
 ·simp
 ·split <;> simp
theorem store_len (l:List Vl) (a:Nat) (v:Vl):(store l a v).length=l.length:=by
 unfold store;split <;> simp [lose_len]
theorem lose_getD (l:List Vl) (a i:Nat):(lose l a).getD i Vl.nil=if i=a∨(kd l a=9∧i+1=a)∨(kd l a=2∧i=a+1) then Vl.nil else l.getD i Vl.nil:=by
 unfold lose
 show (if kd l a=9 then _ else if kd l a=2 then _ else _:List Vl).getD i Vl.nil=_
 by_cases h9:kd l a=9
 ·rw [if_pos h9,set_nil,set_nil]
  by_cases e:i=a
  ·rw [if_pos e,if_pos (.inl e)]
  ·rw [if_neg e]
   by_cases e2:i+1=a
   ·rw [if_pos (by omega),if_pos (.inr (.inl ⟨h9,e2⟩))]
   ·rw [if_neg (by omega),if_neg (by omega)]
 ·rw [if_neg h9]
  by_cases h2:kd l a=2
  ·rw [if_pos h2,set_nil,set_nil]
   by_cases e:i=a
   ·rw [if_pos e,if_pos (.inl e)]
   ·rw [if_neg e]
    by_cases e2:i=a+1
    ·rw [if_pos e2,if_pos (.inr (.inr ⟨h2,e2⟩))]
    ·rw [if_neg e2,if_neg (by omega)]
  ·rw [if_neg h2,set_nil]
   by_cases e:i=a
   ·rw [if_pos e,if_pos (.inl e)]
   ·rw [if_neg e,if_neg (by omega)]
theorem lose_kd (l:List Vl) (a i:Nat):kd (lose l a) i=if i=a∨(kd l a=9∧i+1=a)∨(kd l a=2∧i=a+1) then 0 else kd l i:=by
 unfold kd
 rw [lose_getD]
 unfold kd
 split <;> rfl
theorem lose_paired {l:List Vl}(h:Paired l) (a:Nat):Paired (lose l a):=by
 obtain ⟨hA,hB⟩:=h
 have a1:=hA a
 have b1:=hB a
 refine ⟨fun i hi=>?_,fun i hi=>?_⟩
 ·rw [lose_kd] at hi ⊢
  split at hi
  ·omega
  ·rename_i hn
   have:=hA i hi
   rw [if_neg,this]
   rintro (e | ⟨e1,e2⟩ | ⟨e1,e2⟩)
   ·subst e;exact hn (.inr (.inl ⟨this,rfl⟩))
   ·have:=(b1 e1).2
    rw [show a - 1=i+1 by omega] at this
    omega
   ·exact hn (.inl (by omega))
 ·rw [lose_kd] at hi
  split at hi
  ·omega
  ·rename_i hn
   have hb:=hB i hi
   rw [lose_kd]
   refine ⟨hb.1,?_⟩
   rw [if_neg,hb.2]
   rintro (e | ⟨e1,e2⟩ | ⟨e1,e2⟩)
   ·have h2:=hb.2
    rw [e] at h2
    exact hn (.inr (.inr ⟨h2,by omega⟩))
   ·exact hn (.inl (by omega))
   ·have:=a1 e1
    rw [show i - 1=a+1 by omega] at hb
    omega
theorem lose_ok {n:Nat}{l:List Vl}(h:SlotsOk n l) (a:Nat):SlotsOk n (lose l a):=by
 refine ⟨fun i=>?_,lose_paired h.pair a⟩
 rw [lose_getD]
 split
 ·exact nil_ok n
 ·exact h.vals i
theorem kd_set (l:List Vl) (j i:Nat) (x:Vl):kd (l.set j x) i=if i=j∧j < l.length then x.kind else kd l i:=by
 unfold kd;rw [getD_set];split <;> rfl
theorem store_ok {n:Nat}{l:List Vl}(h:SlotsOk n l){a:Nat}{v:Vl}(hv:VtOk n v) (ha:a < l.length) (ha2:v.kind=2→a+1 < l.length):SlotsOk n (store l a v):=by
 unfold store
 by_cases h2:v.kind=2
 ·rw [if_pos h2]
  have hl:=lose_ok (lose_ok h a) (a+1)
  have ha2:=ha2 h2
  have k0:kd (lose (lose l a) (a+1)) a=0:=by
   rw [lose_kd]
   split
   ·rfl
   ·rw [lose_kd,if_pos (.inl rfl)]
  have k1:kd (lose (lose l a) (a+1)) (a+1)=0:=by rw [lose_kd,if_pos (.inl rfl)]
  have hlen:(lose (lose l a) (a+1)).length=l.length:=by rw [lose_len,lose_len]
  generalize lose (lose l a) (a+1)=q at *
  obtain ⟨hvals,hA,hB⟩:=hl
  refine ⟨fun i=>?_,fun i hi=>?_,fun i hi=>?_⟩
  ·rw [getD_set]
   split
   ·exact hv.1
   ·rw [getD_set]
    split
    ·exact ⟨by unfold Ok;simp,by simp,by simp,by simp⟩
    ·exact hvals i
  ·rw [kd_set,kd_set] at hi ⊢
   simp only [List.length_set] at hi ⊢
   by_cases e:i=a
   ·subst e;rw [if_neg (by omega),if_pos (by omega)]
   ·rw [if_neg (by omega)] at hi
    by_cases e1:i=a+1
    ·rw [if_pos (by omega)] at hi;simp at hi
    ·rw [if_neg (by omega)] at hi
     have:=hA i hi
     rw [if_neg,if_neg (by omega),this]
     rintro ⟨e2,_⟩
     rw [e2,k0] at this;omega
  ·rw [kd_set,kd_set] at hi
   simp only [List.length_set] at hi
   by_cases e:i=a
   ·subst e;rw [if_pos (by omega)] at hi;omega
   ·rw [if_neg (by omega)] at hi
    by_cases e1:i=a+1
    ·subst e1
     rw [kd_set,kd_set]
     simp only [List.length_set]
     rw [if_pos (by omega)]
     exact ⟨by omega,h2⟩
    ·rw [if_neg (by omega)] at hi
     have:=hB i hi
     rw [kd_set,kd_set]
     simp only [List.length_set]
     refine ⟨this.1,?_⟩
     rw [if_neg,if_neg,this.2]
     ·rintro ⟨e2,_⟩
      have h3:=this.2
      rw [e2,k1] at h3;omega
     ·rintro ⟨e2,_⟩
      have h3:=this.2
      rw [e2,k0] at h3;omega
 ·rw [if_neg h2]
  have hl:=lose_ok h a
  have k0:kd (lose l a) a=0:=by rw [lose_kd,if_pos (.inl rfl)]
  generalize lose l a=q at *
  obtain ⟨hvals,hA,hB⟩:=hl
  have hk:=hv.2
  refine ⟨fun i=>?_,fun i hi=>?_,fun i hi=>?_⟩
  ·rw [getD_set]
   split
   ·exact hv.1
   ·exact hvals i
  ·rw [kd_set] at hi ⊢
   split at hi
   ·omega
   ·have:=hA i hi
    rw [if_neg,this]
    rintro ⟨e,_⟩
    rw [e,k0] at this;omega
  ·rw [kd_set] at hi
   split at hi
   ·omega
   ·have:=hB i hi
    rw [kd_set,if_neg]
    ·exact this
    ·rintro ⟨e,_⟩
     have h3:=this.2
     rw [e,k0] at h3;omega
theorem pair_lt {l:List Vl}(h:Paired l){i:Nat}(hi:kd l i=2):i+1 < l.length:=by
 have:=h.1 i hi
 refine Nat.lt_of_not_le (fun hle=>?_)
 unfold kd at this
 rw [getD_out hle] at this
 simp [Vl.nil] at this
theorem fresh_ok (n k:Nat):SlotsOk n (List.replicate k Vl.nil):=by
 have e:∀ i,(List.replicate k Vl.nil).getD i Vl.nil=Vl.nil:=fun i=>by
  rw [List.getD_eq_getElem?_getD,List.getElem?_replicate];split <;> rfl
 refine ⟨fun i=>by rw [e];exact nil_ok n,fun i hi=>?_,fun i hi=>?_⟩
 ·unfold kd at hi;rw [e] at hi;simp [Vl.nil] at hi
 ·unfold kd at hi;rw [e] at hi;simp [Vl.nil] at hi
structure ObOk (l:List Cls) (n:Nat) (o:Ob):Prop where
 lo:0≤o.cls
 hi:o.cls < l.length
 keys:o.held.map (·.1)=(fresh l o.cls).map (·.1)
 vals:∀ x∈o.held,VtOk n x.2
 kinds:∀ x∈o.held,x.2.kind=(ftype l x.1.1 x.1.2).kind
structure HpOk (l:List Cls) (input:List Int) (fuel:Nat) (h:Hp):Prop where
 many:h.objs.length≤100
 obs:∀ o∈h.objs,ObOk l h.objs.length o
 out:∀ x∈h.out,Ok x
 outs:h.out.length≤h.steps
 used:h.used≤input.length
 steps:h.steps≤fuel
theorem ObOk.mono {l:List Cls}{n m:Nat}{o:Ob}(h:ObOk l n o) (hm:n≤m):ObOk l m o:=⟨h.lo,h.hi,h.keys,fun x hx=>(h.vals x hx).mono hm,h.kinds⟩
theorem fields_ok {l:List Cls}{n c:Nat}{fs:List Ty}(hf:fs.all (Hier.ty l.length)=true):∀ x∈fieldsOf c fs,VtOk n x.2:=by
 intro x hx
 unfold fieldsOf at hx
 obtain ⟨k,hk,rfl⟩:=List.mem_map.1 hx
 have hk':k < fs.length:=by simpa using hk
 rw [List.getD_eq_getElem?_getD,List.getElem?_eq_getElem hk']
 have h1:=List.all_eq_true.1 hf _ (List.getElem_mem hk')
 simp only [Option.getD_some]
 generalize fs[k]=t at *
 simp only [Hier.ty] at h1
 unfold zero VtOk VlOk Ok
 by_cases e:t.kind=3
 ·rw [if_pos e];simp <;> omega
 ·rw [if_neg e]
  rw [if_neg e] at h1
  by_cases e1:t.kind=1∨t.kind=2
  ·simp <;> omega
  ·rw [if_neg e1] at h1;cases h1
theorem may_fields {l:List Cls}(hm:Hier.may l=true){c:Nat}(hc:c < l.length):(Hier.at' l c).fields.all (Hier.ty l.length)=true:=by
 have:=((Hier.may_iff l).1 hm).2 c hc
 rw [Hier.at_eq hc]
 unfold Hier.cls at this
 rw [Bool.and_eq_true] at this
 exact this.2
theorem fresh_vals {l:List Cls}(hm:Hier.may l=true) (n:Nat) (c:Int):∀ x∈fresh l c,VtOk n x.2:=by
 intro x hx
 unfold fresh at hx
 obtain ⟨k,hk,hx⟩:=List.mem_flatMap.1 hx
 split at hx
 ·exact fields_ok (may_fields hm (by simpa using hk)) x hx
 ·cases hx
theorem fresh_kinds {l:List Cls}(c:Int):∀ x∈fresh l c,x.2.kind=(ftype l x.1.1 x.1.2).kind:=by
 intro x hx
 unfold fresh at hx
 obtain ⟨k,hk,hx⟩:=List.mem_flatMap.1 hx
 split at hx
 ·unfold fieldsOf at hx
  obtain ⟨j,hj,rfl⟩:=List.mem_map.1 hx
  simp only [ftype,Int.toNat_natCast,zero]
  split
  ·rename_i e;rw [e]
  ·rfl
 ·cases hx
theorem find_mem {l:List ((Int × Int) × Vl)}{k:Int × Int}(h:k∈l.map (·.1)):∃ x∈l,x.1=k∧find l k=x.2:=by
 unfold find
 cases hf:l.find? fun x=>decide (x.1=k) with
 | none =>
  rw [List.find?_eq_none] at hf
  obtain ⟨x,hx,e⟩:=List.mem_map.1 h
  exact absurd (by simpa using e) (hf x hx)
 | some x =>
  have h1:=List.find?_some hf
  exact ⟨x,List.mem_of_find?_eq_some hf,by simpa using h1,rfl⟩
theorem fresh_has {l:List Cls}{c d k:Int}(hd:0≤d∧d < l.length) (hi:Hier.is l c d=true) (hk:0≤k∧k < ((Hier.at' l d.toNat).fields.length:Int)):(d,k)∈(fresh l c).map (·.1):=by
 rw [List.mem_map]
 have e1:((d.toNat:Nat):Int)=d:=by omega
 have e2:((k.toNat:Nat):Int)=k:=by omega
 refine ⟨((d,k),zero ((Hier.at' l d.toNat).fields.getD k.toNat ⟨0,0⟩)),?_,rfl⟩
 unfold fresh
 rw [List.mem_flatMap]
 refine ⟨d.toNat,by simp;omega,?_⟩
 rw [e1,if_pos hi]
 unfold fieldsOf
 rw [List.mem_map]
 exact ⟨k.toNat,by simp;omega,by rw [e1,e2]⟩
theorem become_keys (l:List ((Int × Int) × Vl)) (k:Int × Int) (v:Vl):(become l k v).map (·.1)=l.map (·.1):=by
 unfold become
 rw [List.map_map]
 apply List.map_congr_left
 intro x _
 simp only [Function.comp]
 split
 ·rename_i e;exact e.symm
 ·rfl
theorem become_vals {n:Nat}{l:List ((Int × Int) × Vl)}{k:Int × Int}{v:Vl}(h:∀ x∈l,VtOk n x.2) (hv:VtOk n v):∀ x∈become l k v,VtOk n x.2:=by
 intro x hx
 unfold become at hx
 obtain ⟨y,hy,rfl⟩:=List.mem_map.1 hx
 split
 ·exact hv
 ·exact h y hy
theorem become_kinds {l:List Cls}{q:List ((Int × Int) × Vl)}{k:Int × Int}{v:Vl}(h:∀ x∈q,x.2.kind=(ftype l x.1.1 x.1.2).kind) (hv:v.kind=(ftype l k.1 k.2).kind):∀ x∈become q k v,x.2.kind=(ftype l x.1.1 x.1.2).kind:=by
 intro x hx
 unfold become at hx
 obtain ⟨y,hy,rfl⟩:=List.mem_map.1 hx
 split
 ·exact hv
 ·exact h y hy
theorem of_kind {l:List Cls}{h:Hp}{v:Vl}{t:Ty}(h1:ofT l h v t=true):v.kind=t.kind:=by
 unfold ofT at h1
 simp only [Bool.and_eq_true,decide_eq_true_eq] at h1
 exact h1.1
theorem obj_mem {h:Hp}{n:Int}(h0:0≤n) (h1:n < h.objs.length):obj h n∈h.objs:=by
 unfold obj
 rw [List.getD_eq_getElem?_getD,List.getElem?_eq_getElem (by omega)]
 exact List.getElem_mem _
def ResOk {α:Type}(l:List Cls) (input:List Int) (fuel:Nat) (h0:Hp) (R:α→Hp→Prop):Res α→Prop
 | .ok a h=>HpOk l input fuel h∧h0.objs.length≤h.objs.length∧h.steps=h0.steps∧R a h
 | .thrown o h=>HpOk l input fuel h∧h0.objs.length≤h.objs.length∧h.steps=h0.steps∧o < h.objs.length
 | .stop _ h=>HpOk l input fuel h∧h0.objs.length≤h.objs.length∧h.steps=h0.steps
section
variable {l:List Cls}{input:List Int}{fuel:Nat}{h:Hp}
theorem new_ok (hm:Hier.may l=true) (H:HpOk l input fuel h){c:Int}(hc:0≤c∧c < l.length):ResOk l input fuel h (fun v h=>VtOk h.objs.length v∧v.kind=3∧0≤v.n) (new l c h):=by
 unfold new
 split
 ·exact ⟨H,Nat.le_refl _,rfl⟩
 ·refine ⟨⟨by simp;omega,fun o ho=>?_,H.out,H.outs,H.used,H.steps⟩,by simp,rfl,?_⟩
  ·simp only [List.length_append,List.length_cons,List.length_nil]
   rcases List.mem_append.1 ho with ho | ho
   ·exact (H.obs o ho).mono (by omega)
   ·have:o=⟨c,fresh l c⟩:=by simpa using ho
    subst this
    exact ⟨hc.1,hc.2,rfl,fresh_vals hm _ _,fresh_kinds _⟩
  ·refine ⟨⟨⟨?_,?_,?_,?_⟩,?_,?_⟩,rfl,?_⟩ <;> simp [Ok] <;> omega
theorem raise_ok {α:Type}{R:α→Hp→Prop}(hm:Hier.may l=true) (H:HpOk l input fuel h){c:Int}(hc:0≤c∧c < l.length):ResOk l input fuel h R (raise l c h:Res α):=by
 have:=new_ok hm H hc
 unfold raise
 cases hn:new l c h with
 | ok v h' =>
  rw [hn] at this
  obtain ⟨h1,h2,h3,h4,h5,h6⟩:=this
  have:=h4.1.2.2.2 h5
  exact ⟨h1,h2,h3,by omega⟩
 | thrown o h'=>rw [hn] at this;exact this
 | stop e h'=>rw [hn] at this;exact this
theorem throw_ok {α:Type}{R:α→Hp→Prop}(hm:Hier.may l=true) (H:HpOk l input fuel h){v:Vl}(hv:VlOk h.objs.length v):ResOk l input fuel h R (throw l v h:Res α):=by
 unfold throw
 split
 ·exact ⟨H,Nat.le_refl _,rfl⟩
 ·split
  ·have:=(Hier.may_iff l).1 hm
   exact raise_ok hm H (by omega)
  ·rename_i h1 h2
   have:=hv.2.2.2 (by omega)
   exact ⟨H,Nat.le_refl _,rfl,by omega⟩
theorem of_ref {v:Vl}{c:Int}(h1:ofT l h v ⟨3,c⟩=true):v.kind=3∧(v.n < 0∨Hier.is l (obj h v.n).cls c=true):=by
 unfold ofT at h1
 simp only [Bool.and_eq_true,Bool.or_eq_true,decide_eq_true_eq] at h1
 obtain ⟨h1,h2⟩:=h1
 refine ⟨h1,?_⟩
 rcases h2 with (h2 | h2) | h2
 ·simp at h2
 ·exact .inl h2
 ·exact .inr h2
theorem get_ok (hm:Hier.may l=true) (H:HpOk l input fuel h){v:Vl}(hv:VlOk h.objs.length v){c k:Int}(hc:0≤c∧c < l.length) (hk:0≤k∧k < ((Hier.at' l c.toNat).fields.length:Int)):ResOk l input fuel h (fun x h'=>h'=h∧VtOk h.objs.length x∧x.kind=(ftype l c k).kind) (get l v c k h):=by
 unfold get
 cases ho:ofT l h v ⟨3,c⟩
 ·exact ⟨H,Nat.le_refl _,rfl⟩
 ·rw [if_neg (by simp)]
  obtain ⟨h3,h4⟩:=of_ref ho
  split
  ·have:=(Hier.may_iff l).1 hm
   exact raise_ok hm H (by omega)
  ·rename_i hn
   have hvn:=hv.2.2.2 h3
   have hO:=H.obs _ (obj_mem (h:=h) (n:=v.n) (by omega) (by omega))
   have hi:Hier.is l (obj h v.n).cls c=true:=by
                                                         rcases h4 with h4 | h4;· omega
                                                         · exact h4
   have hmem:=fresh_has hc hi hk
   rw [← hO.keys] at hmem
   obtain ⟨x,hx,e1,e⟩:=find_mem hmem
   refine ⟨H,Nat.le_refl _,rfl,rfl,by rw [e];exact hO.vals x hx,?_⟩
   rw [e,hO.kinds x hx,e1]
theorem put_ok (hm:Hier.may l=true) (H:HpOk l input fuel h){r v:Vl}(hr:VlOk h.objs.length r) (hv:VtOk h.objs.length v){c k:Int}:ResOk l input fuel h (fun _ _=>True) (put l r c k v (ftype l c k) h):=by
 unfold put
 split
 ·exact ⟨H,Nat.le_refl _,rfl⟩
 ·split
  ·exact ⟨H,Nat.le_refl _,rfl⟩
  ·rename_i h0 h1
   obtain ⟨h3,h4⟩:=of_ref (by simpa using h1)
   split
   ·have:=(Hier.may_iff l).1 hm
    exact raise_ok hm H (by omega)
   ·have hvn:=hr.2.2.2 h3
    have hO:=H.obs _ (obj_mem (h:=h) (n:=r.n) (by omega) (by omega))
    refine ⟨⟨by simpa using H.many,fun o ho=>?_,H.out,H.outs,H.used,H.steps⟩,by simp,rfl,trivial⟩
    simp only [List.length_set]
    rcases List.mem_or_eq_of_mem_set ho with ho | ho
    ·exact H.obs o ho
    ·subst ho
     exact ⟨hO.lo,hO.hi,(become_keys _ _ _).trans hO.keys,become_vals hO.vals hv,become_kinds hO.kinds (of_kind (by simpa using h0))⟩
theorem cast_ok (hm:Hier.may l=true) (H:HpOk l input fuel h){v:Vl}{c:Int}:ResOk l input fuel h (fun _ h'=>h'=h) (cast l v c h):=by
 unfold cast
 split
 ·exact ⟨H,Nat.le_refl _,rfl⟩
 ·split
  ·have:=(Hier.may_iff l).1 hm
   exact raise_ok hm H (by omega)
  ·exact ⟨H,Nat.le_refl _,rfl,rfl⟩
theorem isV_ok (H:HpOk l input fuel h){v:Vl}{c:Int}:ResOk l input fuel h (fun x h'=>h'=h∧VtOk h.objs.length x∧x.kind=1) (isV l v c h):=by
 unfold isV
 split
 ·exact ⟨H,Nat.le_refl _,rfl⟩
 ·refine ⟨H,Nat.le_refl _,rfl,rfl,?_,rfl⟩
  split <;> refine ⟨⟨?_,?_,?_,?_⟩,?_,?_⟩ <;> simp [Ok]
theorem numOf_ok (kind op a b:Int) (ha:Ok a) (hb:Ok b):Ok (numOf kind op a b).1:=by
 unfold numOf
 split
 ·unfold Num.int;exact wrap32_ok _
 ·exact Num.long_ok op a b ha
theorem reckon_ok (hm:Hier.may l=true) (H:HpOk l input fuel h){a b:Vl}(ha:Ok a.n) (hb:Ok b.n){kind op:Int}(hk:kind=1∨kind=2):ResOk l input fuel h (fun x h'=>h'=h∧VtOk h.objs.length x∧x.kind=kind) (reckon l a b kind op h):=by
 unfold reckon
 split
 ·exact ⟨H,Nat.le_refl _,rfl⟩
 ·split
  ·have:=(Hier.may_iff l).1 hm
   exact raise_ok hm H (by omega)
  ·refine ⟨H,Nat.le_refl _,rfl,rfl,⟨⟨numOf_ok kind op a.n b.n ha hb,?_,?_,?_⟩,?_,?_⟩,rfl⟩ <;> simp <;> omega
end
end Run
namespace Rform
open D Num Go.Proofs.YtncmhenfgbcihabGreat.Form
def reg (regs n kind:Int):Bool:=rng n 0 (regs+1 - wide kind)
def fk (cl:List Cls) (c n:Int):Int:=((Hier.at' cl c.toNat).fields.getD n.toNat ⟨0,0⟩).kind
def regsOk (regs:Int) (ps:List Ty) (xs:List Int):Bool:=(List.range ps.length).all fun k=>reg regs (xs.getD k 0) (ps.getD k ⟨0,0⟩).kind
def mAt (ms:List Me) (k:Int):List Ty:=((ms.map (·.params)).getD k.toNat [])
def num (i:Ins):Bool :=
 if i.op=1 then decide (wrap32 i.n=i.n) else if i.op=2 then true else if i.op=5∨i.op=6 then rng i.n 1 9
 else if i.op=14∨i.op=15 then true else decide (i.n=0)
def body (cl:List Cls) (ms:List Me) (ncode regs retk:Int) (i:Ins):Bool :=
 if i.op=1 then reg regs i.a 1 && decide (i.b=0) && decide (i.c=0)
 else if i.op=2∨i.op=24 then reg regs i.a 2 && decide (i.b=0) && decide (i.c=0)
 else if i.op=3∨i.op=21∨i.op=22 then reg regs i.a 3 && decide (i.b=0) && decide (i.c=0)
 else if i.op=4 then rng i.c 1 4 && (reg regs i.a i.c && reg regs i.b i.c)
 else if i.op=5 then reg regs i.a 1 && (reg regs i.b 1 && reg regs i.c 1)
 else if i.op=6 then reg regs i.a 2 && (reg regs i.b 2 && reg regs i.c 2)
 else if i.op=7 then reg regs i.a 2 && reg regs i.b 1 && decide (i.c=0)
 else if i.op=8 then reg regs i.a 1 && reg regs i.b 2 && decide (i.c=0)
 else if i.op=9 then reg regs i.a 1 && (reg regs i.b 2 && reg regs i.c 2)
 else if i.op=10 then rng i.a 0 ncode && decide (i.b=0) && decide (i.c=0)
 else if i.op=11 then rng i.a 0 ncode && rng i.b 1 5 && reg regs i.c 1
 else if i.op=12 then rng i.a 0 ncode && decide (i.b=0) && reg regs i.c 3
 else if i.op=13∨i.op=16 then reg regs i.a 3 && rng i.b 0 cl.length && decide (i.c=0)
 else if i.op=14∨i.op=15 then rng i.c 0 cl.length && rng i.n 0 (nf cl i.c) && reg regs i.a (fk cl i.c i.n) && reg regs i.b 3
 else if i.op=17 then reg regs i.a 1 && reg regs i.b 1 && rng i.c 0 cl.length
 else if i.op=18 then rng i.a 0 ms.length && decide (i.args.length=(mAt ms i.a).length) && regsOk regs (mAt ms i.a) i.args && decide (i.b=0) && decide (i.c=0)
 else if i.op=19 then rng i.b 1 4 && reg regs i.a i.b && decide (i.c=0)
 else if i.op=23 then rng i.b 1 3 && reg regs i.a i.b && decide (i.c=0)
 else if i.op=20 then decide (i.b=0) && decide (i.c=0) && (if retk=0 then decide (i.a=0) else reg regs i.a retk)
 else false
def ins (f:Fi) (m:Me) (i:Ins):Bool :=
 (decide (i.op=18) || decide (i.args.length=0)) && body f.classes f.methods m.code.length m.regs m.ret.kind i && num i
def rme (f:Fi) (m:Me):Bool :=
 head f.classes.length m 2400 && decide (m.stack=0) && decide (m.locals=0) && rng m.regs (max 1 (slots m.params:Nat)) 91 && m.code.all (ins f m)
def rmay (f:Fi):Bool:=Hier.may f.classes && rng f.methods.length 1 9 && f.methods.all (rme f)
def kinds (op:Int):Option (Int × Int × Int) :=
 if op=1 then some (1,0,0) else if op=2∨op=24 then some (2,0,0) else if op=3∨op=21∨op=22 then some (3,0,0)
 else if op=5 then some (1,1,1) else if op=6 then some (2,2,2) else if op=7 then some (2,1,0) else if op=8 then some (1,2,0) else if op=9 then some (1,2,2)
 else if op=10 then some (-1,0,0) else if op=11 then some (-1,-1,1) else if op=12 then some (-1,0,3) else if op=13∨op=16 then some (3,-1,0)
 else if op=14∨op=15 then some (-1,3,-1) else if op=17 then some (1,3,-1) else if op=18∨op=20 then some (-1,0,0) else if op=19∨op=23 then some (-1,-1,0)
 else if op=4 then some (-1,-1,-1) else none
end Rform
namespace Run
open D Num
def RetOk (m:Me) (n:Nat) (v:Vl):Prop:=if m.ret.kind=0 then v=Vl.nil else VtOk n v
def From (l:List Cls) (input:List Int) (fuel:Nat) (h0 h:Hp):Prop:=HpOk l input fuel h∧h0.objs.length≤h.objs.length∧h.steps=h0.steps
def ActOk {Fr:Type}(FrOk:Me→Nat→Fr→Prop) (f:Fi) (input:List Int) (fuel:Nat) (m:Me) (h0:Hp):Act Fr→Prop
 | .go fr h=>From f.classes input fuel h0 h∧FrOk m h.objs.length fr
 | .back v h=>From f.classes input fuel h0 h∧RetOk m h.objs.length v
 | .thrown o h=>From f.classes input fuel h0 h∧o < h.objs.length
 | .stop _ h=>From f.classes input fuel h0 h
 | .call k args fr h=>From f.classes input fuel h0 h∧FrOk m h.objs.length fr∧(∀ v∈args,VtOk h.objs.length v)∧args.length=(meAt f k).params.length∧k < f.methods.length
theorem From.refl {l:List Cls}{input:List Int}{fuel:Nat}{h:Hp}(H:HpOk l input fuel h):From l input fuel h h:=⟨H,Nat.le_refl _,rfl⟩
theorem act_ok {Fr α:Type}{FrOk:Me→Nat→Fr→Prop}{f:Fi}{input:List Int}{fuel:Nat}{m:Me}{h0:Hp}{R:α→Hp→Prop}{r:Res α}{k:α→Hp→Act Fr}
  (hr:ResOk f.classes input fuel h0 R r) (hk:∀ a h,From f.classes input fuel h0 h→R a h→ActOk FrOk f input fuel m h0 (k a h)):ActOk FrOk f input fuel m h0 (r.act k):=by
 cases r with
 | ok a h=>exact hk a h ⟨hr.1,hr.2.1,hr.2.2.1⟩ hr.2.2.2
 | thrown o h=>exact ⟨⟨hr.1,hr.2.1,hr.2.2.1⟩,hr.2.2.2⟩
 | stop e h=>exact hr
structure MachOk {Fr:Type}(M:Mach Fr) (FrOk:Me→Nat→Fr→Prop) (f:Fi) (input:List Int) (fuel:Nat):Prop where
 may:Hier.may f.classes=true
 step:∀ m∈f.methods,∀ i∈m.code,∀ fr h,HpOk f.classes input fuel h→h.out.length < h.steps→FrOk m h.objs.length fr→ActOk FrOk f input fuel m h (M.step f input m i fr h)
 enter:∀ m∈f.methods,∀ n args,(∀ v∈args,VtOk n v)→args.length=m.params.length→(∀ i (h:i < args.length),(args[i].kind=(m.params.getD i ⟨0,0⟩).kind))→FrOk m n (M.enter m args)
 resume:∀ m∈f.methods,∀ callee n v fr fr',FrOk m n fr→RetOk callee n v→M.resume m callee fr v=some fr'→FrOk m n fr'
 caught:∀ m∈f.methods,∀ n o at_ fr fr',o < n→n≤100→FrOk m n fr→M.caught m fr at_ o=some fr'→FrOk m n fr'
 mono:∀ m n n' fr,n≤n'→FrOk m n fr→FrOk m n' fr
def CallOk (f:Fi) (input:List Int) (fuel:Nat) (m:Me) (h0:Hp):Res Vl→Prop
 | .ok v h=>(HpOk f.classes input fuel h∧h0.objs.length≤h.objs.length∧h0.steps≤h.steps)∧RetOk m h.objs.length v
 | .thrown o h=>(HpOk f.classes input fuel h∧h0.objs.length≤h.objs.length∧h0.steps≤h.steps)∧o < h.objs.length
 | .stop _ h=>HpOk f.classes input fuel h∧h0.objs.length≤h.objs.length∧h0.steps≤h.steps
theorem CallOk.from {f:Fi}{input:List Int}{fuel:Nat}{m:Me}{h0 h1:Hp}{r:Res Vl}(h:CallOk f input fuel m h1 r) (h2:h0.objs.length≤h1.objs.length) (h3:h0.steps≤h1.steps):CallOk f input fuel m h0 r:=by
 cases r with
 | ok v h'=>obtain ⟨⟨a,b,c⟩,d⟩:=h;exact ⟨⟨a,by omega,by omega⟩,d⟩
 | thrown o h'=>obtain ⟨⟨a,b,c⟩,d⟩:=h;exact ⟨⟨a,by omega,by omega⟩,d⟩
 | stop e h'=>obtain ⟨a,b,c⟩:=h;exact ⟨a,by omega,by omega⟩
theorem step_hp {l:List Cls}{input:List Int}{fuel:Nat}{h:Hp}(H:HpOk l input fuel h) (hs:h.steps < fuel):HpOk l input fuel { h with steps:=h.steps+1 } :=
 ⟨H.many,H.obs,H.out,by have:=H.outs;simp only;omega,H.used,by simp only;omega⟩
theorem allOf_kind {l:List Cls}{h:Hp}:∀ (args:List Vl) (ts:List Ty),allOf l h args ts=true→∀ i (hi:i < args.length),i < ts.length→args[i].kind=(ts.getD i ⟨0,0⟩).kind:=by
 intro args
 induction args with
 | nil=>intro ts _ i hi;simp at hi
 | cons v vs ih =>
  intro ts ha i hi hts
  cases ts with
  | nil=>simp at hts
  | cons t ts =>
   simp only [allOf,Bool.and_eq_true] at ha
   cases i with
   | zero =>
    have:=ha.1
    simp only [ofT,Bool.and_eq_true,decide_eq_true_eq] at this
    simpa using this.1
   | succ i=>simpa using ih ts ha.2 i (by simpa using hi) (by simpa using hts)
theorem meAt_mem {f:Fi}{k:Nat}(h:k < f.methods.length):meAt f k∈f.methods:=by
 unfold meAt
 rw [List.getD_eq_getElem?_getD,List.getElem?_eq_getElem h]
 exact List.getElem_mem h
section
variable {Fr:Type}{M:Mach Fr}{FrOk:Me→Nat→Fr→Prop}{f:Fi}{input:List Int}{fuel:Nat}
theorem after_go (K:MachOk M FrOk f input fuel){m:Me}(hm:m∈f.methods){fr fr':Fr}{o:Nat}{h:Hp}(ho:o < h.objs.length) (H:HpOk f.classes input fuel h) (hf:FrOk m h.objs.length fr) (ha:after M f m fr o h=.go fr'):FrOk m h.objs.length fr':=by
 unfold after at ha
 split at ha
 ·cases ha
 ·split at ha
  ·cases ha
  ·rename_i hc
   injection ha with ha
   subst ha
   exact K.caught m hm _ o _ _ _ ho H.many hf hc
theorem loop_ok (K:MachOk M FrOk f input fuel):∀ (g d:Nat) (m:Me) (fr:Fr) (h:Hp),m∈f.methods→HpOk f.classes input fuel h→FrOk m h.objs.length fr→CallOk f input fuel m h (loop M f input fuel g d m fr h):=by
 intro g
 induction g with
 | zero=>intro d m fr h hm H hf;exact ⟨H,Nat.le_refl _,Nat.le_refl _⟩
 | succ g ih =>
  intro d m fr h hm H hf
  rw [loop]
  by_cases hs:fuel≤h.steps
  ·rw [if_pos hs];exact ⟨H,Nat.le_refl _,Nat.le_refl _⟩
  ·rw [if_neg hs]
   have H1:=step_hp H (by omega)
   cases hi:m.code[M.at_ fr]? with
   | none=>exact ⟨H1,Nat.le_refl _,Nat.le_succ _⟩
   | some i =>
    have hst:=K.step m hm i (List.mem_of_getElem? hi) fr _ H1 (by have:=H.outs;simp only;omega) hf
    simp only
    cases hc:M.step f input m i fr { h with steps:=h.steps+1 } with
    | stop e h' =>
     rw [hc] at hst
     obtain ⟨a,b,c⟩:=hst
     simp only at b c
     exact ⟨a,b,by omega⟩
    | back v h' =>
     rw [hc] at hst
     obtain ⟨⟨a,b,c⟩,e⟩:=hst
     simp only at b c
     exact ⟨⟨a,b,by omega⟩,e⟩
    | go fr' h' =>
     rw [hc] at hst
     obtain ⟨⟨a,b,c⟩,e⟩:=hst
     simp only at b c
     exact (ih d m fr' h' hm a e).from b (by omega)
    | thrown o h' =>
     rw [hc] at hst
     obtain ⟨⟨a,b,c⟩,e⟩:=hst
     simp only at b c
     simp only
     cases hn:after M f m fr o h' with
     | go fr'=>exact (ih d m fr' h' hm a (after_go K hm e a (K.mono _ _ _ _ b hf) hn)).from b (by omega)
     | thrown=>exact ⟨⟨a,b,by omega⟩,e⟩
     | stuck=>exact ⟨a,b,by omega⟩
    | call k args fr' h' =>
     rw [hc] at hst
     obtain ⟨⟨a,b,c⟩,e,hv,hl,hk⟩:=hst
     simp only at b c
     simp only
     cases hall:allOf f.classes h' args (meAt f k).params
     ·rw [if_pos rfl];exact ⟨a,b,by omega⟩
     ·rw [if_neg (by simp)]
      by_cases hd:20≤d
      ·rw [if_pos hd];exact ⟨a,b,by omega⟩
      ·rw [if_neg hd]
       have hin:=ih (d+1) (meAt f k) (M.enter (meAt f k) args) h' (meAt_mem hk) a (K.enter _ (meAt_mem hk) _ args hv hl (fun i hi=>allOf_kind args _ hall i hi (by omega)))
       cases hr:loop M f input fuel g (d+1) (meAt f k) (M.enter (meAt f k) args) h' with
       | stop e' h2=>rw [hr] at hin;obtain ⟨p,q,r⟩:=hin;exact ⟨p,by omega,by omega⟩
       | ok v h2 =>
        rw [hr] at hin
        obtain ⟨⟨p,q,r⟩,s⟩:=hin
        simp only
        cases hre:M.resume m (meAt f k) fr' v with
        | none=>exact ⟨p,by omega,by omega⟩
        | some fr2=>exact (ih d m fr2 h2 hm p (K.resume m hm _ _ _ _ _ (K.mono _ _ _ _ q e) s hre)).from (by omega) (by omega)
       | thrown o h2 =>
        rw [hr] at hin
        obtain ⟨⟨p,q,r⟩,s⟩:=hin
        simp only
        cases hn:after M f m fr' o h2 with
        | go fr2=>exact (ih d m fr2 h2 hm p (after_go K hm s p (K.mono _ _ _ _ q e) hn)).from (by omega) (by omega)
        | thrown=>exact ⟨⟨p,by omega,by omega⟩,s⟩
        | stuck=>exact ⟨p,by omega,by omega⟩
theorem call_ok (K:MachOk M FrOk f input fuel) (g d:Nat) (m:Me) (args:List Vl) (h:Hp) (hm:m∈f.methods) (H:HpOk f.classes input fuel h) (hv:∀ v∈args,VtOk h.objs.length v) (hl:args.length=m.params.length):CallOk f input fuel m h (call M f input fuel g d m args h):=by
 unfold call
 cases hall:allOf f.classes h args m.params
 ·rw [if_pos rfl];exact ⟨H,Nat.le_refl _,Nat.le_refl _⟩
 ·rw [if_neg (by simp)]
  split
  ·exact ⟨H,Nat.le_refl _,Nat.le_refl _⟩
  ·exact loop_ok K g (d+1) m _ h hm H (K.enter m hm _ args hv hl (fun i hi=>allOf_kind args _ hall i hi (by omega)))
end
theorem rng_iff {n lo hi:Int}:Form.rng n lo hi=true↔lo≤n∧n < hi:=by simp [Form.rng]
structure InS (f:Fi) (m:Me) (i:Ins):Prop where
 op:1≤i.op∧i.op≤25
 n1:i.op=1→wrap32 i.n=i.n
 slot:i.op=4∨i.op=5→(1≤i.b∧i.b≤3)∧0≤i.a∧i.a < m.locals+1 - Form.wide i.b
 ops:i.op=6∨i.op=7→1≤i.a∧i.a < 9
 jump:i.op=11∨i.op=12∨i.op=13→0≤i.a∧i.a < m.code.length
 cls:i.op=14∨i.op=15∨i.op=16∨i.op=17∨i.op=18→0≤i.a∧i.a < f.classes.length
 fld:i.op=15∨i.op=16→0≤i.b∧i.b < Form.nf f.classes i.a
 meth:i.op=19→0≤i.a∧i.a < f.methods.length
 out:i.op=24→1≤i.a∧i.a < 3
theorem inS_of {f:Fi}{m:Me}{i:Ins}(h:Form.sins f.classes f.methods.length m.code.length m.locals i=true):InS f m i:=by
 simp only [Form.sins,Bool.and_eq_true] at h
 obtain ⟨⟨⟨⟨ha,hb⟩,hn⟩,_⟩,_⟩:=h
 have hop:1≤i.op∧i.op≤25:=by
  unfold Form.sa at ha
  repeat' split at ha
  all_goals first | omega | simp at ha
 refine ⟨hop,fun e=>?_,fun e=>⟨?_,?_⟩,fun e=>?_,fun e=>?_,fun e=>?_,fun e=>?_,fun e=>?_,fun e=>?_⟩
 ·rw [Form.sn,if_pos e] at hn;simpa using hn
 ·rw [Form.sb,if_pos e] at hb;have:=rng_iff.1 hb;omega
 ·rw [Form.sa,if_pos e] at ha;have:=rng_iff.1 ha;omega
 ·rw [Form.sa,if_neg (by omega),if_pos e] at ha;exact rng_iff.1 ha
 ·rw [Form.sa,if_neg (by omega),if_neg (by omega),if_pos e] at ha;exact rng_iff.1 ha
 ·rw [Form.sa,if_neg (by omega),if_neg (by omega),if_neg (by omega),if_pos e] at ha;exact rng_iff.1 ha
 ·rw [Form.sb,if_neg (by omega),if_neg (by omega),if_pos e,Bool.and_eq_true] at hb;exact rng_iff.1 hb.2
 ·rw [Form.sa,if_neg (by omega),if_neg (by omega),if_neg (by omega),if_neg (by omega),if_pos e] at ha;exact rng_iff.1 ha
 ·rw [Form.sa,if_neg (by omega),if_neg (by omega),if_neg (by omega),if_neg (by omega),if_neg (by omega),if_pos e] at ha;exact rng_iff.1 ha
structure MeS (f:Fi) (m:Me):Prop where
 ins:∀ i∈m.code,InS f m i
 stack:0≤m.stack∧m.stack < 31
 locals:(Form.slots m.params:Int)≤m.locals∧m.locals < 61
 params:m.params.length≤4∧∀ t∈m.params,Hier.ty f.classes.length t=true
 ret:Form.ret f.classes.length m.ret=true
 code:1≤m.code.length∧m.code.length≤400
 hds:m.handlers.length≤8∧∀ x∈m.handlers,Form.hd f.classes.length m.code.length x=true
structure FiS (f:Fi):Prop where
 may:Hier.may f.classes=true
 many:1≤f.methods.length∧f.methods.length≤8
 mes:∀ m∈f.methods,MeS f m
theorem head_iff {nc:Int}{m:Me}{most:Int}(h:Form.head nc m most=true):(∀ t∈m.params,Hier.ty nc t=true)∧(∀ x∈m.handlers,Form.hd nc m.code.length x=true)∧m.params.length≤4∧Form.ret nc m.ret=true∧(1≤(m.code.length:Int)∧(m.code.length:Int) < most+1)∧m.handlers.length≤8:=by
 simp only [Form.head,Bool.and_eq_true,decide_eq_true_eq,List.all_eq_true,rng_iff] at h
 obtain ⟨⟨⟨⟨⟨h1,h2⟩,h3⟩,h4⟩,h5⟩,h6⟩:=h
 exact ⟨h1,h2,h3,h4,h5,h6⟩
theorem fiS_of {f:Fi}(h:Form.smay f=true):FiS f:=by
 simp only [Form.smay,Bool.and_eq_true,rng_iff,List.all_eq_true] at h
 obtain ⟨⟨h1,h2⟩,h3⟩:=h
 refine ⟨h1,by omega,fun m hm=>?_⟩
 have:=h3 m hm
 simp only [Form.sme,Bool.and_eq_true,rng_iff,List.all_eq_true,decide_eq_true_eq] at this
 obtain ⟨⟨⟨⟨h4,_⟩,h5⟩,h6⟩,h7⟩:=this
 obtain ⟨p1,p2,p3,p4,p5,p6⟩:=head_iff h4
 exact ⟨fun i hi=>inS_of (h7 i hi),h5,⟨h6.1,h6.2⟩,⟨p3,p1⟩,p4,by omega,p6,p2⟩
structure SfOk (m:Me) (n:Nat) (fr:Sf):Prop where
 loc:SlotsOk n fr.loc
 len:fr.loc.length=m.locals.toNat
 stk:StkOk n fr.stk
theorem SfOk.mono {m:Me}{n n':Nat}{fr:Sf}(h:SfOk m n fr) (hn:n≤n'):SfOk m n' fr:=⟨h.loc.mono hn,h.len,h.stk.mono hn⟩
theorem StkOk.nil (n:Nat):StkOk n []:=fun v hv=>by cases hv
theorem StkOk.snoc {n:Nat}{st:List Vl}{v:Vl}(h:StkOk n st) (hv:VtOk n v):StkOk n (st++[v]):=fun x hx=>by
 rcases List.mem_append.1 hx with hx | hx
 ·exact h x hx
 ·have:x=v:=by simpa using hx
  subst this;exact hv
theorem StkOk.dropLast {n:Nat}{st:List Vl}(h:StkOk n st):StkOk n st.dropLast:=fun x hx=>h x (List.dropLast_subset st hx)
theorem StkOk.top {n:Nat}{st:List Vl}(h:StkOk n st) (hne:st≠[]):VtOk n (Run.top st):=by
 unfold Run.top
 rw [List.getLast?_eq_some_getLast hne]
 exact h _ (List.getLast_mem hne)
section
variable {f:Fi}{input:List Int}{fuel:Nat}{m:Me}{i:Ins}{fr:Sf}{h0 h:Hp}
theorem push_ok (F:From f.classes input fuel h0 h) (hf:SfOk m h0.objs.length fr){st:List Vl}(hs:StkOk h.objs.length st){v:Vl}(hv:VtOk h.objs.length v):ActOk SfOk f input fuel m h0 (push m fr st v h):=by
 unfold push
 split
 ·exact ⟨F,hf.loc.mono F.2.1,hf.len,hs.snoc hv⟩
 ·exact F
theorem pop1_ok (F:From f.classes input fuel h0 h) (hf:SfOk m h.objs.length fr){k:Vl→List Vl→Act Sf}(hk:∀ v st,VtOk h.objs.length v→StkOk h.objs.length st→ActOk SfOk f input fuel m h0 (k v st)):ActOk SfOk f input fuel m h0 (pop1 fr h k):=by
 unfold pop1
 split
 ·exact F
 ·rename_i hne
  exact hk _ _ (hf.stk.top hne) hf.stk.dropLast
theorem pop2_ok (F:From f.classes input fuel h0 h) (hf:SfOk m h.objs.length fr){k:Vl→Vl→List Vl→Act Sf}(hk:∀ a b st,VtOk h.objs.length a→VtOk h.objs.length b→StkOk h.objs.length st→ActOk SfOk f input fuel m h0 (k a b st)):ActOk SfOk f input fuel m h0 (pop2 fr h k):=by
 unfold pop2
 refine pop1_ok F hf (fun b st hb hs=>?_)
 split
 ·exact F
 ·rename_i hne
  exact hk _ _ _ (hs.top hne) hb hs.dropLast
theorem kindly_ok (F:From f.classes input fuel h0 h){v:Vl}{kind:Int}{k:Act Sf}(hk:v.kind=kind→ActOk SfOk f input fuel m h0 k):ActOk SfOk f input fuel m h0 (kindly v kind h k):=by
 unfold kindly
 split
 ·exact hk ‹_›
 ·exact F
theorem int_ok' (n:Nat){x:Int}(h:Ok x) (k:Int) (hk:k=1∨k=2):VtOk n ⟨k,x⟩:=⟨⟨h,by simp only;omega,by simp only;omega,by simp only;omega⟩,by simp only;omega,by simp only;omega⟩
theorem null_ok (n:Nat):VtOk n ⟨3,-1⟩:=⟨⟨by simp [Ok],by simp,by simp,by simp;omega⟩,by simp,by simp⟩
theorem cmp_okr (a b:Int):Ok (Num.cmp a b):=by unfold Num.cmp Ok;split <;> (try split) <;> omega
theorem sstep_ok (hm:Hier.may f.classes=true) (M:MeS f m) (hi:InS f m i) (hio:Ok i.n) (hin:∀ x∈input,Ok x) (H:HpOk f.classes input fuel h) (ho:h.out.length < h.steps) (hf:SfOk m h.objs.length fr):ActOk SfOk f input fuel m h (sstep f input m i fr h):=by
 have F:=From.refl H
 have go:∀ (st:List Vl) (at_:Nat) (h':Hp),From f.classes input fuel h h'→StkOk h'.objs.length st→ActOk SfOk f input fuel m h (.go (on fr st at_) h'):=fun st at_ h' F' hs=>⟨F',hf.loc.mono F'.2.1,hf.len,hs⟩
 unfold sstep
 by_cases q1:i.op=1
 ·rw [if_pos q1];exact push_ok F hf hf.stk (int_ok' _ hio 1 (.inl rfl))
 rw [if_neg q1]
 by_cases q2:i.op=2
 ·rw [if_pos q2];exact push_ok F hf hf.stk (int_ok' _ hio 2 (.inr rfl))
 rw [if_neg q2]
 by_cases q3:i.op=3
 ·rw [if_pos q3];exact push_ok F hf hf.stk (null_ok _)
 rw [if_neg q3]
 by_cases q4:i.op=4
 ·rw [if_pos q4]
  obtain ⟨hb,ha⟩:=hi.slot (.inl q4)
  exact kindly_ok F (fun e=>push_ok F hf hf.stk ⟨hf.loc.vals _,by omega,by omega⟩)
 rw [if_neg q4]
 by_cases q5:i.op=5
 ·rw [if_pos q5]
  obtain ⟨hb,ha0,ha1⟩:=hi.slot (.inr q5)
  refine pop1_ok F hf (fun v st hv hs=>kindly_ok F (fun e=>⟨F,store_ok hf.loc hv ?_ ?_,by rw [store_len];exact hf.len,hs⟩))
  ·rw [hf.len];unfold Form.wide at ha1;split at ha1 <;> omega
  ·intro h2;rw [hf.len];unfold Form.wide at ha1;rw [if_pos (by omega)] at ha1;omega
 rw [if_neg q5]
 by_cases q6:i.op=6
 ·rw [if_pos q6]
  exact pop2_ok F hf (fun a b st ha hb hs=>act_ok (reckon_ok hm H ha.1.1 hb.1.1 (.inl rfl)) (fun v h' F' hv=>push_ok F' hf (by rw [hv.1];exact hs) (by rw [hv.1];exact hv.2.1)))
 rw [if_neg q6]
 by_cases q7:i.op=7
 ·rw [if_pos q7]
  exact pop2_ok F hf (fun a b st ha hb hs=>act_ok (reckon_ok hm H ha.1.1 hb.1.1 (.inr rfl)) (fun v h' F' hv=>push_ok F' hf (by rw [hv.1];exact hs) (by rw [hv.1];exact hv.2.1)))
 rw [if_neg q7]
 by_cases q8:i.op=8
 ·rw [if_pos q8];exact pop1_ok F hf (fun v st hv hs=>kindly_ok F (fun e=>push_ok F hf hs (int_ok' _ hv.1.1 2 (.inr rfl))))
 rw [if_neg q8]
 by_cases q9:i.op=9
 ·rw [if_pos q9];exact pop1_ok F hf (fun v st hv hs=>kindly_ok F (fun e=>push_ok F hf hs (int_ok' _ (wrap32_ok _) 1 (.inl rfl))))
 rw [if_neg q9]
 by_cases q10:i.op=10
 ·rw [if_pos q10];exact pop2_ok F hf (fun a b st ha hb hs=>kindly_ok F (fun e=>kindly_ok F (fun e=>push_ok F hf hs (int_ok' _ (cmp_okr _ _) 1 (.inl rfl)))))
 rw [if_neg q10]
 by_cases q11:i.op=11
 ·rw [if_pos q11];exact go _ _ _ F hf.stk
 rw [if_neg q11]
 by_cases q12:i.op=12
 ·rw [if_pos q12];exact pop1_ok F hf (fun v st hv hs=>kindly_ok F (fun e=>go _ _ _ F hs))
 rw [if_neg q12]
 by_cases q13:i.op=13
 ·rw [if_pos q13];exact pop1_ok F hf (fun v st hv hs=>kindly_ok F (fun e=>go _ _ _ F hs))
 rw [if_neg q13]
 by_cases q14:i.op=14
 ·rw [if_pos q14];exact act_ok (new_ok hm H (hi.cls (by omega))) (fun v h' F' hv=>push_ok F' hf (hf.stk.mono F'.2.1) hv.1)
 rw [if_neg q14]
 by_cases q15:i.op=15
 ·rw [if_pos q15]
  exact pop1_ok F hf (fun v st hv hs=>act_ok (get_ok hm H hv.1 (hi.cls (by omega)) (hi.fld (by omega))) (fun x h' F' hx=>push_ok F' hf (by rw [hx.1];exact hs) (by rw [hx.1];exact hx.2.1)))
 rw [if_neg q15]
 by_cases q16:i.op=16
 ·rw [if_pos q16]
  exact pop2_ok F hf (fun r v st hr hv hs=>kindly_ok F (fun e=>act_ok (put_ok hm H hr.1 hv) (fun _ h' F' _=>go _ _ _ F' (hs.mono F'.2.1))))
 rw [if_neg q16]
 by_cases q17:i.op=17
 ·rw [if_pos q17]
  exact pop1_ok F hf (fun v st hv hs=>act_ok (cast_ok hm H) (fun _ h' F' _=>push_ok F' hf (hs.mono F'.2.1) (hv.mono F'.2.1)))
 rw [if_neg q17]
 by_cases q18:i.op=18
 ·rw [if_pos q18]
  exact pop1_ok F hf (fun v st hv hs=>act_ok (isV_ok H) (fun x h' F' hx=>push_ok F' hf (hs.mono F'.2.1) (by rw [hx.1];exact hx.2.1)))
 rw [if_neg q18]
 by_cases q19:i.op=19
 ·rw [if_pos q19]
  unfold s19
  split
  ·exact F
  ·rename_i hn
   have:=hi.meth q19
   exact ⟨F,⟨hf.loc,hf.len,fun x hx=>hf.stk x (List.mem_of_mem_take hx)⟩,fun x hx=>hf.stk x (List.mem_of_mem_drop hx),by simp;omega,by omega⟩
 rw [if_neg q19]
 by_cases q20:i.op=20
 ·rw [if_pos q20]
  unfold s20
  by_cases hr:m.ret.kind=0
  ·rw [if_pos hr];exact ⟨F,by rw [RetOk,if_pos hr]⟩
  ·rw [if_neg hr]
   refine pop1_ok F hf (fun v st hv hs=>?_)
   split
   ·exact ⟨F,by rw [RetOk,if_neg hr];exact hv⟩
   ·exact F
 rw [if_neg q20]
 by_cases q21:i.op=21
 ·rw [if_pos q21]
  exact pop1_ok F hf (fun v st hv hs=>act_ok (R:=fun _ _=>True) (throw_ok hm H hv.1) (fun _ h' F' _=>F'))
 rw [if_neg q21]
 by_cases q22:i.op=22
 ·rw [if_pos q22];exact pop1_ok F hf (fun v st hv hs=>go _ _ _ F hs)
 rw [if_neg q22]
 by_cases q23:i.op=23
 ·rw [if_pos q23]
  refine pop1_ok F hf (fun v st hv hs=>?_)
  split
  ·refine go _ _ _ F ?_
   have:=(hs.snoc hv).snoc hv
   simpa using this
  ·exact F
 rw [if_neg q23]
 by_cases q24:i.op=24
 ·rw [if_pos q24]
  refine pop1_ok F hf (fun v st hv hs=>?_)
  unfold emit
  split
  ·exact F
  ·refine go _ _ { h with out:=h.out++[v.n] } ⟨⟨H.many,H.obs,fun x hx=>?_,?_,H.used,H.steps⟩,Nat.le_refl _,rfl⟩ hs
   ·rcases List.mem_append.1 hx with hx | hx
    ·exact H.out x hx
    ·have:x=v.n:=by simpa using hx
     rw [this];exact hv.1.1
   ·simp only [List.length_append,List.length_cons,List.length_nil];omega
 rw [if_neg q24]
 by_cases q25:i.op=25
 ·rw [if_pos q25]
  unfold s25 takeIn
  split
  ·exact F
  ·rename_i hu
   refine push_ok (h:={ h with used:=h.used+1 }) ⟨⟨H.many,H.obs,H.out,H.outs,by simp only;omega,H.steps⟩,Nat.le_refl _,rfl⟩ hf hf.stk (int_ok' _ ?_ 2 (.inr rfl))
   rw [List.getD_eq_getElem?_getD,List.getElem?_eq_getElem (by omega)]
   exact hin _ (List.getElem_mem _)
 rw [if_neg q25]
 exact F
end
theorem width_le (v:Vl):1≤width v∧width v≤2:=by unfold width;split <;> omega
theorem stores_ok {n:Nat}:∀ (args:List Vl) (l:List Vl) (a:Nat),SlotsOk n l→(∀ v∈args,VtOk n v)→a+size args≤l.length→SlotsOk n (stores l a args)∧(stores l a args).length=l.length:=by
 intro args
 induction args with
 | nil=>intro l a h _ _;exact ⟨h,rfl⟩
 | cons v vs ih =>
  intro l a h hv hs
  simp only [size] at hs
  have hw:=width_le v
  have h1:=store_ok h (a:=a) (hv v (by simp)) (by omega) (fun h2=>by unfold width at hs;rw [if_pos h2] at hs;omega)
  have h2:=ih (store l a v) (a+width v) h1 (fun x hx=>hv x (by simp [hx])) (by rw [store_len];omega)
  exact ⟨h2.1,h2.2.trans (store_len _ _ _)⟩
theorem size_slots:∀ (args:List Vl) (ts:List Ty),args.length=ts.length→(∀ i (h:i < args.length),args[i].kind=(ts.getD i ⟨0,0⟩).kind)→size args=Form.slots ts:=by
 intro args
 induction args with
 | nil=>intro ts h _;rw [List.eq_nil_of_length_eq_zero (l:=ts) (by simpa using h.symm)];rfl
 | cons v vs ih =>
  intro ts h hk
  cases ts with
  | nil=>simp at h
  | cons t ts =>
   have h0:=hk 0 (by simp)
   simp only [List.getElem_cons_zero,List.getD_cons_zero] at h0
   rw [size,Form.slots,ih ts (by simpa using h) (fun i hi=>by have:=hk (i+1) (by simp;omega);simp only [List.getElem_cons_succ,List.getD_cons_succ] at this;exact this),width,h0]
theorem sm_ok {f:Fi}{input:List Int}{fuel:Nat}(S:FiS f) (hn:∀ m∈f.methods,∀ i∈m.code,Ok i.n) (hin:∀ x∈input,Ok x):MachOk SM SfOk f input fuel:=by
 refine ⟨S.may,fun m hm i hi fr h H ho hf=>sstep_ok S.may (S.mes m hm) ((S.mes m hm).ins i hi) (hn m hm i hi) hin H ho hf,fun m hm n args hv hl hk=>?_,fun m hm callee n v fr fr' hf hv hr=>?_,fun m hm n o a fr fr' ho hn hf hc=>?_,fun m n n' fr hn hf=>hf.mono hn⟩
 ·have M:=S.mes m hm
  have hsz:=size_slots args m.params hl hk
  have:=stores_ok args (List.replicate m.locals.toNat Vl.nil) 0 (fresh_ok n _) hv (by simp;have:=M.locals.1;omega)
  exact ⟨this.1,by rw [show (SM.enter m args).loc.length=_ from this.2];simp,StkOk.nil n⟩
 ·change sresume m callee fr v=some fr' at hr
  unfold sresume at hr
  split at hr
  ·injection hr with hr;subst hr;exact ⟨hf.loc,hf.len,hf.stk⟩
  ·rename_i h0
   split at hr
   ·injection hr with hr;subst hr
    rw [RetOk,if_neg h0] at hv
    exact ⟨hf.loc,hf.len,hf.stk.snoc hv⟩
   ·cases hr
 ·change scaught m fr a o=some fr' at hc
  unfold scaught at hc
  split at hc
  ·injection hc with hc;subst hc
   refine ⟨hf.loc,hf.len,fun x hx=>?_⟩
   have:x=⟨3,o⟩:=by simpa [on] using hx
   subst this
   exact ⟨⟨by simp [Ok];omega,by simp,by simp,by simp;omega⟩,by simp,by simp⟩
  ·cases hc
structure MeR (f:Fi) (m:Me):Prop where
 ins:∀ i∈m.code,Rform.ins f m i=true
 regs:1≤m.regs∧(Form.slots m.params:Int)≤m.regs∧m.regs < 91
 params:m.params.length≤4∧∀ t∈m.params,Hier.ty f.classes.length t=true
 ret:Form.ret f.classes.length m.ret=true
 code:1≤m.code.length∧m.code.length≤2400
 hds:m.handlers.length≤8∧∀ x∈m.handlers,Form.hd f.classes.length m.code.length x=true
structure FiR (f:Fi):Prop where
 may:Hier.may f.classes=true
 many:1≤f.methods.length∧f.methods.length≤8
 mes:∀ m∈f.methods,MeR f m
structure RfOk (m:Me) (n:Nat) (fr:Rf):Prop where
 regs:SlotsOk n fr.regs
 len:fr.regs.length=m.regs.toNat
 given:VlOk n fr.given
 got:VlOk n fr.got
theorem RfOk.mono {m:Me}{n n':Nat}{fr:Rf}(h:RfOk m n fr) (hn:n≤n'):RfOk m n' fr:=⟨h.regs.mono hn,h.len,h.given.mono hn,h.got.mono hn⟩
section
variable {f:Fi}{input:List Int}{fuel:Nat}{m:Me}{i:Ins}{fr:Rf}{h0 h:Hp}
end
end Run
namespace Hpw
open Num Rd D Run Mem
def int (n:Int):Value:=.int .i64 n
def vcell (v:Vl):List Value:=[.int .i64 v.kind,.int .i64 v.n]
def vval (v:Vl):Value:=.agg #[.int .i64 v.kind,.int .i64 v.n]
def vcells (l:List Vl):List Value:=l.flatMap vcell
structure Ev where
 f:Fi
 input:List Int
 fuel:Nat
 hb:Nat
 B:Nat
 vc:Value
 vm:Value
 vi:Value
def nilOb:Ob:=⟨0,[]⟩
theorem vcells_len (l:List Vl):(vcells l).length=l.length*2:=by
 induction l with
 | nil=>rfl
 | cons v l ih=>simp only [vcells,List.flatMap_cons,List.length_append,List.length_cons] at ih ⊢;rw [ih];simp [vcell];omega
theorem vcells_get:∀ (l:List Vl) (i:Nat),i < l.length→(vcells l)[i*2]? = some (.int .i64 (l.getD i Vl.nil).kind)∧(vcells l)[i*2+1]? = some (.int .i64 (l.getD i Vl.nil).n):=by
 intro l
 induction l with
 | nil=>intro i h;simp at h
 | cons v l ih =>
  intro i h
  cases i with
  | zero=>simp [vcells,vcell]
  | succ i =>
   have:=ih i (by simpa using h)
   rw [show (i+1)*2+1=(i*2+1)+2 by omega,show (i+1)*2=i*2+2 by omega]
   simpa [vcells,vcell] using this
theorem vcells_append (l m:List Vl):vcells (l++m)=vcells l++vcells m:=by simp [vcells]
theorem vcells_set:∀ (l:List Vl) (i:Nat) (v:Vl),vcells (l.set i v)=((vcells l).set (i*2) (.int .i64 v.kind)).set (i*2+1) (.int .i64 v.n):=by
 intro l
 induction l with
 | nil=>intro i v;simp [vcells]
 | cons u l ih =>
  intro i v
  cases i with
  | zero=>simp [vcells,vcell]
  | succ i =>
   have:=ih i v
   rw [show (i+1)*2+1=(i*2+1)+2 by omega,show (i+1)*2=i*2+2 by omega]
   simpa [vcells,vcell] using this
end Hpw
namespace HierW
open Num Rd D
def Cs (w:World) (v:Value) (l:List Cls):Prop:=Sl 2 ECls w w.heap.size v l
theorem Cs.next {w w':World}{v:Value}{l:List Cls}(h:Cs w v l) (hb:Below w.heap.size w w'):Cs w' v l:=Sl.mono mCls h hb hb.size
theorem ret_bool {a b:Bool}(h:a=b):Ending.returned (.bool a)=.returned (.bool b):=by rw [h]
theorem ret_int {k:IntKind}{a b:Int}(h:a=b):Ending.returned (.int k a)=.returned (.int k b):=by rw [h]
theorem type (a:Option Addr) (n cap:Nat) (t:Ty) (w:World):Calls Tryz.prog 95 #[.slice a n cap,.agg #[.int .i64 t.kind,.int .i64 t.cls]] w fun e w'=>e=.returned (.bool (Hier.ty n t))∧Below w.heap.size w w':=by
 obtain ⟨k,c⟩:=t
 have E:Hid (Hier.ty n ⟨k,c⟩=if k=1∨k=2 then decide (c=0) else if k=3 then decide (0≤c∧c < n) else false):=rfl
 go_enter Tryz.func95,Tryz.ntmps95
 go_wp2
 all_goals go_ret
 all_goals go_tidy
 all_goals refine ⟨ret_bool ?_,Rd.byB⟩
 all_goals rw [E.out]
 all_goals simp_all
 all_goals first | rfl | (intros;omega)
theorem rtype (a:Option Addr) (n cap:Nat) (t:Ty) (w:World):Calls Tryz.prog 57 #[.slice a n cap,.agg #[.int .i64 t.kind,.int .i64 t.cls]] w fun e w'=>e=.returned (.bool (Hier.ty n t))∧Below w.heap.size w w':=by
 obtain ⟨k,c⟩:=t
 have E:Hid (Hier.ty n ⟨k,c⟩=if k=1∨k=2 then decide (c=0) else if k=3 then decide (0≤c∧c < n) else false):=rfl
 go_enter Tryz.func57,Tryz.ntmps57
 go_wp2
 all_goals go_ret
 all_goals go_tidy
 all_goals refine ⟨ret_bool ?_,Rd.byB⟩
 all_goals rw [E.out]
 all_goals simp_all
 all_goals first | rfl | (intros;omega)
theorem kept {B:Nat}{w w':World}{b o:Nat}{v:Value}(hb:Below B w w') (hlt:b < B) (h:w.cell? ⟨b,o,none⟩=some v):w'.cell? ⟨b,o,none⟩=some v:=(hb.cell (p:=⟨b,o,none⟩) hlt).trans h
theorem cls_false {n:Int}{i:Nat}{c:Cls}(h:Hier.supOk i c.sup=false∨6 < c.fields.length):Hier.cls n i c=false:=by
 unfold Hier.cls
 rcases h with h | h
 ·rw [h];rfl
 ·rw [decide_eq_false (by omega)];simp
theorem cls_false_at {n:Int}{i j:Nat}{c:Cls}(h:j < c.fields.length) (hf:Hier.ty n c.fields[j]=false):Hier.cls n i c=false:=by
 have:c.fields.all (Hier.ty n)=false:=by
  rw [List.all_eq_false];exact ⟨_,List.getElem_mem h,by rw [hf];simp⟩
 unfold Hier.cls;rw [this];simp
theorem cls_true {n:Int}{i:Nat}{c:Cls}(hs:Hier.supOk i c.sup=true) (hl:c.fields.length≤6) (hf:∀ j (h:j < c.fields.length),Hier.ty n c.fields[j]=true):Hier.cls n i c=true:=by
 unfold Hier.cls;rw [hs,decide_eq_true hl]
 simp only [Bool.true_and,List.all_eq_true]
 intro x hx
 obtain ⟨j,hj,rfl⟩:=List.getElem_of_mem hx
 exact hf j hj
theorem all_next {l:List Cls}{n:Int}{k:Nat}(hall:∀ j (h:j < l.length),j < k→Hier.cls n j l[j]=true) (hlt:k < l.length) (hc:Hier.cls n k l[k]=true):∀ j (h:j < l.length),j < k+1→Hier.cls n j l[j]=true:=fun j h hj=>by
 by_cases e:j=k
 ·subst e;exact hc
 ·exact hall j h (by omega)
theorem tys_next {l:List Ty}{n:Int}{k:Nat}(hall:∀ j (h:j < l.length),j < k→Hier.ty n l[j]=true) (hlt:k < l.length) (hc:Hier.ty n l[k]=true):∀ j (h:j < l.length),j < k+1→Hier.ty n l[j]=true:=fun j h hj=>by
 by_cases e:j=k
 ·subst e;exact hc
 ·exact hall j h (by omega)
theorem at_of {α:Type}{l:List α}{k:Nat}(h:k < l.length):∃ c,Hid (l[k]=c):=⟨_,rfl⟩
set_option maxRecDepth 100000 in
theorem may (v:Value) (l:List Cls) (w:World) (h:Cs w v l):Calls Tryz.prog 46 #[v] w fun e w'=>e=.returned (.bool (Hier.may l))∧Below w.heap.size w w':=by
 obtain ⟨a,cap,rfl,hlc,hcc,hel⟩:=h
 by_cases q1:l.length < 4
 ·have e1:=Lib.hid (Hier.may_false_len (l:=l) (by omega))
  go_enter Tryz.func46,Tryz.ntmps46
  go_wp2
  all_goals go_ret
  all_goals exact ⟨ret_bool e1.out.symm,Rd.byB⟩
 by_cases q2:12 < l.length
 ·have e1:=Lib.hid (Hier.may_false_len (l:=l) (by omega))
  go_enter Tryz.func46,Tryz.ntmps46
  go_wp2
  all_goals go_ret
  all_goals exact ⟨ret_bool e1.out.symm,Rd.byB⟩
 go_enter Tryz.func46,Tryz.ntmps46
 go_wp2
 go_loopw [17] (fun i wr=>∃ k:Nat,k≤l.length∧i=.int .i64 k∧Below w.heap.size w wr∧Hid (∀ j (h:j < l.length),j < k→Hier.cls l.length j l[j]=true)) (fun i _=>l.length - (intOf i).toNat)
 case atStart=>exact ⟨0,by omega,rfl,Rd.byB,fun j _ h=>absurd h (by omega)⟩
 case round =>
  obtain ⟨k,hk,rfl,hbw,hall⟩:=hrel
  by_cases hlt:k < l.length
  ·obtain ⟨b,o,rfl,hb,he⟩:=hel k hlt
   have hno:=Lib.hid (fun hc=>Hier.may_false_at (l:=l) hlt hc)
   have hyes:=Lib.hid (all_next hall.out hlt)
   obtain ⟨c,hc⟩:=at_of hlt
   rw [hc.out] at he hno hyes
   obtain ⟨c,fl⟩:=c
   obtain ⟨g1,g2,fv,g3,fa,fcap,rfl,flc,fcc,fel⟩:=he
   simp only at g1 g2 g3 flc fel
   have k1:=kept hbw hb g1
   have k2:=kept hbw hb g3
   have hbs:=hbw.size
   clear hel g1 g3
   go_wp2_with (go_at_call 95;refine (type _ _ _ _ _).mono ?_;rintro e w1 ⟨rfl,hb1⟩)
   all_goals first
    | (
           go_ret
           refine ⟨ret_bool (hno.out (cls_false ?_)).symm,Rd.byB⟩
           simp only [Hier.supOk]
           (repeat' split) <;> simp <;> omega)
    | skip
   all_goals
    have hfl:fl.length≤6:=by omega
    have hsup:Hid (Hier.supOk k c=true):=by
     show Hier.supOk k c=true
     unfold Hier.supOk
     split <;> rw [decide_eq_true_eq] <;> omega
    go_loopw [53] (fun i wr2=>∃ m:Nat,m≤fl.length∧i=.int .i64 m∧Below w.heap.size w wr2∧Hid (∀ j (h:j < fl.length),j < m→Hier.ty l.length fl[j]=true)) (fun i _=>fl.length - (intOf i).toNat)
    case atStart=>exact ⟨0,by omega,rfl,Rd.byB,fun j _ h=>absurd h (by omega)⟩
    case round =>
     obtain ⟨m,hm,rfl,hbw2,hall2⟩:=hrel
     have hbs2:=hbw2.size
     by_cases hlt2:m < fl.length
     ·obtain ⟨fb,fo,rfl,hfb,fe⟩:=fel m hlt2
      obtain ⟨f1,f2,_,_⟩:=fe
      have hyes2:=Lib.hid (tys_next hall2.out hlt2)
      have hno2:=Lib.hid (fun hf=>hno.out (cls_false_at (c:=⟨c,fl⟩) hlt2 hf))
      obtain ⟨t,ht⟩:=at_of hlt2
      rw [ht.out] at f1 f2 hyes2 hno2
      have p1:=kept hbw2 hfb f1
      have p2:=kept hbw2 hfb f2
      clear fel f1 f2
      obtain ⟨tb,htb⟩:∃ tb,Hid (Hier.ty l.length t=tb):=⟨_,rfl⟩
      cases tb
      ·go_wp2_with (go_at_call 95;refine (type _ _ _ t _).mono ?_;rw [htb.out];rintro e w1 ⟨rfl,hb1⟩)
       go_ret
       exact ⟨ret_bool (hno2.out htb.out).symm,(hbw2.alloc (by omega) _).trans (hb1.mono (by simp;omega))⟩
      ·go_wp2_with (go_at_call 95;refine (type _ _ _ t _).mono ?_;rw [htb.out];rintro e w1 ⟨rfl,hb1⟩)
       go_roundw
       case rel=>exact ⟨m+1,by omega,by go_num,(hbw2.alloc (by omega) _).trans (hb1.mono (by simp;omega)),hyes2.out htb.out⟩
       case measure=>simp [intOf];omega
     ·obtain rfl:m=fl.length:=by omega
      have hnext:=Lib.hid (hyes.out (cls_true (c:=⟨c,fl⟩) hsup.out hfl (fun j hj=>hall2.out j hj hj)))
      go_wp2
      go_roundw
      case rel=>exact ⟨k+1,by omega,by go_num,hbw2,hnext.out⟩
      case measure=>simp [intOf];omega
  ·have e1:Hid (Hier.may l=true):=(Hier.may_iff l).2 ⟨by omega,fun j h=>hall.out j h (by omega)⟩
   go_wp2
   all_goals go_ret
   all_goals exact ⟨ret_bool e1.out.symm,hbw⟩
end HierW
end Go.Proofs.YtncmhenfgbcihabGreat
