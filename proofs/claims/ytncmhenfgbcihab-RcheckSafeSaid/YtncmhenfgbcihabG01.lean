/- Parts of the proof: Num, Rd, Hier, Form, RdO, HierW, FormW, HierR. -/
import Derived.WalkKit
import Derived.Test.YtncmhenfgbcihabRows
import Derived.ProofKit
import Derived.OpenShut
import Derived.Carry
import Derived.Deep.Draws
import Derived.WalkSpells
import Derived.WalkLawsBesides
import Derived.Lib.Hide
import Derived.Deep.RegionHeld3
import Derived.Deep.QuietTactic
import Derived.BigQuiet
import Derived.Deep.RegionWith
set_option linter.unusedSimpArgs false
set_option linter.unusedVariables false
set_option maxHeartbeats 8000000
namespace Go.Proofs.Ytncmhenfgbcihab
open Go.RowKit
namespace Num
def Ok (n:Int):Prop:=-9223372036854775808≤n∧n≤9223372036854775807
theorem Ok.of_wf {n:Int}(h:(Lit.int .i64 n).wf=true):Ok n:=by
 simp [Lit.wf,IntKind.min,IntKind.max,IntKind.signed,IntKind.bits] at h;unfold Ok;omega
theorem wrap64_ok (n:Int):Ok (wrap64 n):=by unfold Ok wrap64;omega
theorem wrap64_id {n:Int}(h:Ok n):wrap64 n=n:=by unfold Ok at h;unfold wrap64;omega
theorem wrap32_ok (n:Int):Ok (wrap32 n):=by unfold Ok wrap32;omega
theorem bits_ok (op:BinOp) (a b:Int):Ok (bits op .i64 a b):=Ok.of_wf (by
 unfold bits;split <;> exact (by simp [Lit.wf,IntKind.wrap,IntKind.min,IntKind.max,IntKind.signed,IntKind.bits];try split <;> omega))
def long (op a b:Int):Int × Bool :=
 if op=1 then (wrap64 (a+b),true)
 else if op=2 then (wrap64 (a - b),true)
 else if op=3 then (wrap64 (a*b),true)
 else if op=4 then (if b=0 then (0,false) else if b = -1 then (wrap64 (-a),true) else (a.tdiv b,true))
 else if op=5 then (if b=0 then (0,false) else if b = -1 then (0,true) else (a.tmod b,true))
 else if op=6 then (bits .and .i64 a b,true)
 else if op=7 then (bits .or .i64 a b,true)
 else if op=8 then (bits .xor .i64 a b,true)
 else (0,false)
def int (op a b:Int):Int × Bool:=(wrap32 (long op (wrap32 a) (wrap32 b)).1,(long op (wrap32 a) (wrap32 b)).2)
def cmp (a b:Int):Int:=if a < b then -1 else if b < a then 1 else 0
def holds (c a:Int):Bool :=
 if c=1 then decide (a=0) else if c=2 then decide (a < 0) else if c=3 then decide (a≠0) else if c=4 then decide (0 < a) else false
theorem tdiv_ok {a b:Int}(ha:Ok a) (h1:b≠-1):Ok (a.tdiv b):=by
 unfold Ok at *
 have h:=Int.natAbs_tdiv_le_natAbs a b
 by_cases e:a = -9223372036854775808
 ·by_cases h0:b=0
  ·subst h0;simp
  by_cases e1:b=1
  ·subst e1;simp;omega
  ·have h2:2≤b.natAbs:=by omega
   have:(a.tdiv b).natAbs=a.natAbs / b.natAbs:=Int.natAbs_tdiv a b
   have h3:a.natAbs / b.natAbs≤a.natAbs / 2:=Nat.div_le_div_left h2 (by omega)
   omega
 ·omega
theorem tmod_ok {a b:Int}(ha:Ok a):Ok (a.tmod b):=by
 unfold Ok at *
 have h:=Int.natAbs_tmod a b;have h2:=Nat.mod_le a.natAbs b.natAbs;have h3:0≤a→0≤a.tmod b:=fun h=>Int.tmod_nonneg b h
 by_cases h0:0≤a
 ·have:=h3 h0;omega
 ·have:0≤(-a).tmod b:=Int.tmod_nonneg b (by omega)
  rw [Int.neg_tmod] at this;omega
theorem long_ok (op a b:Int) (ha:Ok a):Ok (long op a b).1:=by
 unfold long
 repeat' split
 all_goals dsimp only
 all_goals first | with_reducible exact wrap64_ok _ | with_reducible exact bits_ok _ _ _ | with_reducible exact tdiv_ok ha ‹_› | with_reducible exact tmod_ok ha | exact ⟨by omega,by omega⟩
def bitN:Nat→Int→Int
 | 0,n=>n
 | k+1,n=>bitN k ((n - n % 2) / 2)
def bit (n:Int) (k:Nat):Bool:=decide (bitN k n % 2=1)
theorem bitN_eq (k:Nat):∀ n:Int,bitN k n=n / 2 ^ k:=by
 induction k with
 | zero=>intro n;simp [bitN]
 | succ k ih =>
  intro n
  rw [bitN,ih,show (n - n % 2) / 2=n / 2 by omega,Int.pow_succ,Int.mul_comm,Int.ediv_ediv_of_nonneg (by omega)]
theorem bitN_ok (k:Nat){n:Int}(h:Ok n):Ok (bitN k n):=by
 induction k generalizing n with
 | zero=>exact h
 | succ k ih=>unfold Ok at *;rw [bitN];exact ih (by omega)
def opBit (op:Int) (x y:Bool):Bool:=(decide (op=6) && x && y) || (decide (op=7) && (x || y)) || (decide (op=8) && (x != y))
def sumN (op a b:Int):Nat→Int
 | 0=>0
 | k+1=>sumN op a b k+if opBit op (bit a k) (bit b k) then 2 ^ k else 0
theorem bit_testBit (n:Int) (k:Nat) (hk:k < 64):bit n k=(BitVec.ofInt 64 n).toNat.testBit k:=by
 have hp:(2:Int) ^ k*2 ^ (64 - k)=18446744073709551616:=by
  rw [← Int.pow_add,show k+(64 - k)=64 by omega];rfl
 have h2:(2:Int) ^ (64 - k)=2*2 ^ (63 - k):=by
  rw [show 64 - k=(63 - k)+1 by omega,Int.pow_succ,Int.mul_comm]
 have hpos:(0:Int) < 2 ^ k:=Int.pow_pos (by omega)
 rw [bit,bitN_eq]
 have e1:((BitVec.ofInt 64 n).toNat:Int)=n % 18446744073709551616:=by
  rw [BitVec.toNat_ofInt];rw [Int.toNat_of_nonneg (by omega)];rfl
 have e2:(n / 2 ^ k) % 2=(n % 18446744073709551616 / 2 ^ k) % 2:=by
  have hn:n=n % 18446744073709551616+2 ^ k*(2*2 ^ (63 - k)*(n / 18446744073709551616)):=by
   rw [← Int.mul_assoc,← h2,hp];omega
  have:n / 2 ^ k=n % 18446744073709551616 / 2 ^ k+2*2 ^ (63 - k)*(n / 18446744073709551616):=by
   conv=>lhs;rw [hn]
   exact Int.add_mul_ediv_left _ _ (by omega)
  rw [this,Int.mul_assoc];omega
 rw [e2,← e1,Nat.testBit_eq_decide_div_mod_eq]
 have:((BitVec.ofInt 64 n).toNat:Int) / 2 ^ k % 2=(((BitVec.ofInt 64 n).toNat / 2 ^ k % 2:Nat):Int):=by
  simp
 rw [this]
 congr 1
 simp only [eq_iff_iff];omega
def natN (p:Nat→Bool):Nat→Nat
 | 0=>0
 | k+1=>natN p k+if p k then 2 ^ k else 0
theorem natN_testBit (m k:Nat):natN m.testBit k=m % 2 ^ k:=by
 induction k with
 | zero=>simp [natN,Nat.mod_one]
 | succ k ih =>
  rw [natN,ih,Nat.testBit_eq_decide_div_mod_eq,Nat.pow_succ,Nat.mod_mul]
  have:m / 2 ^ k % 2=0∨m / 2 ^ k % 2=1:=by omega
  rcases this with h | h <;> simp [h]
theorem natN_congr {p q:Nat→Bool}(k:Nat) (h:∀ j,j < k→p j=q j):natN p k=natN q k:=by
 induction k with
 | zero=>rfl
 | succ k ih=>rw [natN,natN,ih (fun j hj=>h j (by omega)),h k (by omega)]
theorem sumN_nat (op a b:Int) (k:Nat):sumN op a b k=(natN (fun j=>opBit op (bit a j) (bit b j)) k:Nat):=by
 induction k with
 | zero=>rfl
 | succ k ih=>rw [sumN,natN,ih];split <;> simp
theorem wrap_i64 (n:Int):IntKind.i64.wrap n=wrap64 n:=by
 rw [IntKind.wrap_i64];unfold wrap64;omega
theorem sumN_bits (op a b:Int) (o:BinOp) (f:Bool→Bool→Bool) (g:Nat→Nat→Nat)
  (hg:∀ x y i,(g x y).testBit i=f (x.testBit i) (y.testBit i)) (hlt:∀ x y,x < 2 ^ 64→y < 2 ^ 64→g x y < 2 ^ 64)
  (hop:∀ x y,opBit op x y=f x y)
  (ho:bits o .i64 a b=IntKind.i64.wrap ((g (BitVec.ofInt 64 a).toNat (BitVec.ofInt 64 b).toNat:Nat):Int)) :
  wrap64 (sumN op a b 64)=bits o .i64 a b:=by
 rw [ho,sumN_nat,wrap_i64]
 have:natN (fun j=>opBit op (bit a j) (bit b j)) 64=natN (g (BitVec.ofInt 64 a).toNat (BitVec.ofInt 64 b).toNat).testBit 64 :=
  natN_congr 64 (fun j hj=>by rw [hop,bit_testBit a j hj,bit_testBit b j hj,hg])
 rw [this,natN_testBit,Nat.mod_eq_of_lt (hlt _ _ (BitVec.isLt _) (BitVec.isLt _))]
theorem sumN_and (a b:Int):wrap64 (sumN 6 a b 64)=bits .and .i64 a b :=
 sumN_bits 6 a b .and (fun x y=>x && y) (fun x y=>x &&& y) (fun x y i=>Nat.testBit_and x y i) (fun x y _ hy=>Nat.and_lt_two_pow _ hy)
  (by intro x y;cases x <;> cases y <;> rfl) (by show IntKind.i64.wrap ((BitVec.toNat (BitVec.ofInt 64 a &&& BitVec.ofInt 64 b):Nat):Int)=_;rw [BitVec.toNat_and])
theorem sumN_or (a b:Int):wrap64 (sumN 7 a b 64)=bits .or .i64 a b :=
 sumN_bits 7 a b .or (fun x y=>x || y) (fun x y=>x ||| y) (fun x y i=>Nat.testBit_or x y i) (fun x y hx hy=>Nat.or_lt_two_pow hx hy)
  (by intro x y;cases x <;> cases y <;> rfl) (by show IntKind.i64.wrap ((BitVec.toNat (BitVec.ofInt 64 a ||| BitVec.ofInt 64 b):Nat):Int)=_;rw [BitVec.toNat_or])
theorem sumN_xor (a b:Int):wrap64 (sumN 8 a b 64)=bits .xor .i64 a b :=
 sumN_bits 8 a b .xor (fun x y=>x != y) (fun x y=>x ^^^ y) (fun x y i=>Nat.testBit_xor x y i) (fun x y hx hy=>Nat.xor_lt_two_pow hx hy)
  (by intro x y;cases x <;> cases y <;> rfl) (by show IntKind.i64.wrap ((BitVec.toNat (BitVec.ofInt 64 a ^^^ BitVec.ofInt 64 b):Nat):Int)=_;rw [BitVec.toNat_xor])
def refBits (op a b:Int):Int:=wrap64 (sumN op a b 64)
def refLong (op a b:Int):Int × Bool :=
 if op=1 then (wrap64 (a+b),true)
 else if op=2 then (wrap64 (a - b),true)
 else if op=3 then (wrap64 (a*b),true)
 else if op=6∨op=7∨op=8 then (refBits op a b,true)
 else if (op≠4∧op≠5)∨b=0 then (0,false)
 else if op=4 then (if b≠-1 then a.tdiv b else wrap64 (0 - a),true)
 else (wrap64 (a - wrap64 ((if b≠-1 then a.tdiv b else wrap64 (0 - a))*b)),true)
theorem rem_eq (a b:Int) (ha:Ok a) (_hb:b≠0):wrap64 (a - wrap64 ((if b≠-1 then a.tdiv b else wrap64 (0 - a))*b))=if b = -1 then 0 else a.tmod b:=by
 by_cases h:b = -1
 ·subst h;unfold Ok at ha;simp [wrap64];omega
 ·rw [if_pos h,if_neg h];have e:=Int.tdiv_mul_add_tmod a b;have h1:=tmod_ok (b:=b) ha
  have:wrap64 (a - wrap64 (a.tdiv b*b))=wrap64 (a - a.tdiv b*b):=by unfold wrap64;omega
  rw [this,show a - a.tdiv b*b=a.tmod b by omega,wrap64_id h1]
theorem refLong_eq (op a b:Int) (ha:Ok a):refLong op a b=long op a b:=by
 unfold refLong long
 by_cases h1:op=1
 ·simp [h1]
 by_cases h2:op=2
 ·simp [h2]
 by_cases h3:op=3
 ·simp [h3]
 by_cases h4:op=4
 ·subst h4;by_cases hb:b=0
  ·simp [hb]
  ·by_cases hb1:b = -1 <;> simp [hb,hb1,wrap64]
 by_cases h5:op=5
 ·subst h5;by_cases hb:b=0
  ·simp [hb]
  ·have:=rem_eq a b ha hb
   simp only [show ¬((5:Int)=1) by omega,show ¬((5:Int)=2) by omega,show ¬((5:Int)=3) by omega,show ¬((5:Int)=4) by omega,show ¬((5:Int)=6∨(5:Int)=7∨(5:Int)=8) by omega,if_false,if_true,hb]
   rw [if_neg (by simp),this]
   split <;> rfl
 by_cases h6:op=6
 ·subst h6;simp [refBits,sumN_and]
 by_cases h7:op=7
 ·subst h7;simp [refBits,sumN_or]
 by_cases h8:op=8
 ·subst h8;simp [refBits,sumN_xor]
 simp [h1,h2,h3,h4,h5,h6,h7,h8]
def refNarrow (a:Int):Int :=
 let n:=a.tmod 4294967296
 let n:=if n < 0 then n+4294967296 else n
 if 2147483648≤n then n - 4294967296 else n
theorem refNarrow_eq (a:Int):refNarrow a=wrap32 a:=by
 unfold refNarrow wrap32
 by_cases h:0≤a
 ·rw [Int.tmod_eq_emod_of_nonneg h];simp only [];split <;> split <;> omega
 ·have e:a.tmod 4294967296 = -((-a) % 4294967296):=by
   rw [← Int.tmod_eq_emod_of_nonneg (show 0≤-a by omega),Int.neg_tmod,Int.neg_neg]
  rw [e];simp only [];split <;> split <;> omega
end Num
open Go.ChangeShapes Go.WideShapes Go.ChangeAt Go.RowKit
namespace D
structure Ty where
 kind:Int
 cls:Int
structure Cls where
 sup:Int
 fields:List Ty
structure Hd where
 lo:Int
 hi:Int
 go:Int
 cls:Int
structure Ins where
 op:Int
 a:Int
 b:Int
 c:Int
 n:Int
 args:List Int
structure Me where
 params:List Ty
 ret:Ty
 stack:Int
 locals:Int
 regs:Int
 code:List Ins
 handlers:List Hd
structure Fi where
 classes:List Cls
 methods:List Me
end D
namespace Rd
open Num
def Sl {α:Type}(size:Nat) (E:World→Nat→Nat→Nat→α→Prop) (w:World) (B:Nat) (v:Value) (l:List α):Prop :=
 ∃ (a:Option Addr) (cap:Nat),v=.slice a l.length cap∧l.length≤cap∧cap≤9223372036854775807 ∧
  ∀ i (h:i < l.length),∃ b o,a=some ⟨b,o,none⟩∧b < B∧E w B b (o+i*size) l[i]
def EInt (w:World) (_B b o:Nat) (n:Int):Prop:=w.cell? ⟨b,o,none⟩=some (.int .i64 n)∧Ok n
def ETy (w:World) (_B b o:Nat) (t:D.Ty):Prop :=
 w.cell? ⟨b,o,none⟩=some (.int .i64 t.kind)∧w.cell? ⟨b,o+1,none⟩=some (.int .i64 t.cls)∧Ok t.kind∧Ok t.cls
def ECls (w:World) (B b o:Nat) (c:D.Cls):Prop :=
 w.cell? ⟨b,o,none⟩=some (.int .i64 c.sup)∧Ok c.sup∧∃ v,w.cell? ⟨b,o+1,none⟩=some v∧Sl 2 ETy w B v c.fields
def EHd (w:World) (_B b o:Nat) (h:D.Hd):Prop :=
 w.cell? ⟨b,o,none⟩=some (.int .i64 h.lo)∧w.cell? ⟨b,o+1,none⟩=some (.int .i64 h.hi)∧w.cell? ⟨b,o+2,none⟩=some (.int .i64 h.go)∧w.cell? ⟨b,o+3,none⟩=some (.int .i64 h.cls) ∧
  Ok h.lo∧Ok h.hi∧Ok h.go∧Ok h.cls
def EIns (w:World) (B b o:Nat) (i:D.Ins):Prop :=
 w.cell? ⟨b,o,none⟩=some (.int .i64 i.op)∧w.cell? ⟨b,o+1,none⟩=some (.int .i64 i.a)∧w.cell? ⟨b,o+2,none⟩=some (.int .i64 i.b)∧w.cell? ⟨b,o+3,none⟩=some (.int .i64 i.c)∧w.cell? ⟨b,o+4,none⟩=some (.int .i64 i.n) ∧
  (Ok i.op∧Ok i.a∧Ok i.b∧Ok i.c∧Ok i.n)∧∃ v,w.cell? ⟨b,o+5,none⟩=some v∧Sl 1 EInt w B v i.args
def EMe (w:World) (B b o:Nat) (m:D.Me):Prop :=
 ∃ vp vc vh,w.cell? ⟨b,o,none⟩=some vp∧w.cell? ⟨b,o+1,none⟩=some (.int .i64 m.ret.kind)∧w.cell? ⟨b,o+2,none⟩=some (.int .i64 m.ret.cls) ∧
  w.cell? ⟨b,o+3,none⟩=some (.int .i64 m.stack)∧w.cell? ⟨b,o+4,none⟩=some (.int .i64 m.locals)∧w.cell? ⟨b,o+5,none⟩=some (.int .i64 m.regs) ∧
  w.cell? ⟨b,o+6,none⟩=some vc∧w.cell? ⟨b,o+7,none⟩=some vh ∧
  (Ok m.ret.kind∧Ok m.ret.cls∧Ok m.stack∧Ok m.locals∧Ok m.regs)∧Sl 2 ETy w B vp m.params∧Sl 6 EIns w B vc m.code∧Sl 4 EHd w B vh m.handlers
def VMe (w:World) (B:Nat) (v:Value) (m:D.Me):Prop :=
 ∃ vp vc vh,v=.agg #[vp,.int .i64 m.ret.kind,.int .i64 m.ret.cls,.int .i64 m.stack,.int .i64 m.locals,.int .i64 m.regs,vc,vh] ∧
  (Ok m.ret.kind∧Ok m.ret.cls∧Ok m.stack∧Ok m.locals∧Ok m.regs)∧Sl 2 ETy w B vp m.params∧Sl 6 EIns w B vc m.code∧Sl 4 EHd w B vh m.handlers
def VIns (w:World) (B:Nat) (v:Value) (i:D.Ins):Prop :=
 ∃ va,v=.agg #[.int .i64 i.op,.int .i64 i.a,.int .i64 i.b,.int .i64 i.c,.int .i64 i.n,va]∧(Ok i.op∧Ok i.a∧Ok i.b∧Ok i.c∧Ok i.n)∧Sl 1 EInt w B va i.args
def VFi (w:World) (B:Nat) (v:Value) (f:D.Fi):Prop :=
 ∃ vc vm,v=.agg #[vc,vm]∧Sl 2 ECls w B vc f.classes∧Sl 8 EMe w B vm f.methods
def Mono {α:Type}(E:World→Nat→Nat→Nat→α→Prop):Prop :=
 ∀ w w' B B' b o x,Below B w w'→B≤B'→b < B→E w B b o x→E w' B' b o x
theorem Sl.mono {α:Type}{size:Nat}{E:World→Nat→Nat→Nat→α→Prop}(hE:Mono E){w w':World}{B B':Nat}{v:Value}{l:List α}(h:Sl size E w B v l) (hb:Below B w w') (hB:B≤B'):Sl size E w' B' v l:=by
 obtain ⟨a,cap,hv,hl,hc,h⟩:=h;refine ⟨a,cap,hv,hl,hc,fun i hi=>?_⟩;obtain ⟨b,o,ha,hlt,he⟩:=h i hi;exact ⟨b,o,ha,Nat.lt_of_lt_of_le hlt hB,hE _ _ _ _ _ _ _ hb hB hlt he⟩
theorem mInt:Mono EInt:=fun w w' B B' b o x hb _ hlt h=>by
 unfold EInt at *;rw [hb.cell (p:=⟨b,o,none⟩) hlt];exact h
theorem mTy:Mono ETy:=fun w w' B B' b o x hb _ hlt h=>by
 unfold ETy at *;rw [hb.cell (p:=⟨b,o,none⟩) hlt,hb.cell (p:=⟨b,o+1,none⟩) hlt];exact h
theorem mCls:Mono ECls:=fun w w' B B' b o x hb hB hlt h=>by
 unfold ECls at *;rw [hb.cell (p:=⟨b,o,none⟩) hlt,hb.cell (p:=⟨b,o+1,none⟩) hlt]
 obtain ⟨h1,h2,v,h3,h4⟩:=h;exact ⟨h1,h2,v,h3,h4.mono mTy hb hB⟩
theorem mHd:Mono EHd:=fun w w' B B' b o x hb _ hlt h=>by
 unfold EHd at *;rw [hb.cell (p:=⟨b,o,none⟩) hlt,hb.cell (p:=⟨b,o+1,none⟩) hlt,hb.cell (p:=⟨b,o+2,none⟩) hlt,hb.cell (p:=⟨b,o+3,none⟩) hlt];exact h
theorem mIns:Mono EIns:=fun w w' B B' b o x hb hB hlt h=>by
 unfold EIns at *;rw [hb.cell (p:=⟨b,o,none⟩) hlt,hb.cell (p:=⟨b,o+1,none⟩) hlt,hb.cell (p:=⟨b,o+2,none⟩) hlt,hb.cell (p:=⟨b,o+3,none⟩) hlt,hb.cell (p:=⟨b,o+4,none⟩) hlt,hb.cell (p:=⟨b,o+5,none⟩) hlt]
 obtain ⟨h1,h2,h3,h4,h5,h6,v,h7,h8⟩:=h;exact ⟨h1,h2,h3,h4,h5,h6,v,h7,h8.mono mInt hb hB⟩
theorem mMe:Mono EMe:=fun w w' B B' b o x hb hB hlt h=>by
 unfold EMe at *
 rw [hb.cell (p:=⟨b,o,none⟩) hlt,hb.cell (p:=⟨b,o+1,none⟩) hlt,hb.cell (p:=⟨b,o+2,none⟩) hlt,hb.cell (p:=⟨b,o+3,none⟩) hlt,hb.cell (p:=⟨b,o+4,none⟩) hlt,hb.cell (p:=⟨b,o+5,none⟩) hlt,hb.cell (p:=⟨b,o+6,none⟩) hlt,hb.cell (p:=⟨b,o+7,none⟩) hlt];obtain ⟨vp,vc,vh,h1,h2,h3,h4,h5,h6,h7,h8,h9,h10,h11,h12⟩:=h;exact ⟨vp,vc,vh,h1,h2,h3,h4,h5,h6,h7,h8,h9,h10.mono mTy hb hB,h11.mono mIns hb hB,h12.mono mHd hb hB⟩
theorem VMe.mono {w w':World}{B B':Nat}{v:Value}{m:D.Me}(h:VMe w B v m) (hb:Below B w w') (hB:B≤B'):VMe w' B' v m:=by
 obtain ⟨vp,vc,vh,h1,h2,h3,h4,h5⟩:=h;exact ⟨vp,vc,vh,h1,h2,h3.mono mTy hb hB,h4.mono mIns hb hB,h5.mono mHd hb hB⟩
theorem VIns.mono {w w':World}{B B':Nat}{v:Value}{m:D.Ins}(h:VIns w B v m) (hb:Below B w w') (hB:B≤B'):VIns w' B' v m:=by
 obtain ⟨va,h1,h2,h3⟩:=h;exact ⟨va,h1,h2,h3.mono mInt hb hB⟩
theorem VFi.mono {w w':World}{B B':Nat}{v:Value}{f:D.Fi}(h:VFi w B v f) (hb:Below B w w') (hB:B≤B'):VFi w' B' v f:=by
 obtain ⟨vc,vm,h1,h2,h3⟩:=h;exact ⟨vc,vm,h1,h2.mono mCls hb hB,h3.mono mMe hb hB⟩
theorem below_drewN {B:Nat}{a w:World}(h:Below B a w) (n:Nat):Below B a (w.drewN n):=⟨h.os,h.tape,h.output,h.size,h.block⟩
theorem byB {p:Prop}(h:p:=by repeat' (first | with_reducible exact Below.refl _ _ | with_reducible assumption | exact Nat.le_refl _ | with_reducible refine Go.Proofs.Ytncmhenfgbcihab.Rd.below_drewN ?_ _ | with_reducible refine Below.alloc ?_ ?_ _ | with_reducible refine Below.setCell ?_ ?_ _ | with_reducible refine Below.drew ?_ | omega | (simp;omega) | (simp;done))):p:=h
theorem byL {p:Prop}(h:p:=by first | omega | (simp;omega) | (simp;done)):p:=h
section
variable {H:Type}{enc:TypeId × Value→H}{w:World}{sp:Nat→Bool}{held:Bool}
theorem list_of {α:Type}(n:Nat) (Q:Nat→α→Prop) (h:∀ i,i < n→∃ x,Q i x):∃ l:List α,l.length=n∧∀ i (hi:i < l.length),Q i l[i]:=by
 induction n with
 | zero=>exact ⟨[],rfl,fun i hi=>absurd hi (by simp)⟩
 | succ n ih =>
  obtain ⟨l,hl,hq⟩:=ih (fun i hi=>h i (by omega))
  obtain ⟨x,hx⟩:=h n (by omega)
  refine ⟨l++[x],by simp [hl],fun i hi=>?_⟩
  by_cases hlt:i < l.length
  ·rw [List.getElem_append_left hlt];exact hq i hlt
  ·have:i=l.length:=by simp at hi;omega
   subst this
   simp;rw [hl];exact hx
theorem Sl.of_trod {P:Program}{α:Type}{size:Nat}{E:World→Nat→Nat→Nat→α→Prop}{t e:TypeId}(ht:P.underlying t=some (.slice e)) (hs:P.cellsOf e=size) (h0:0 < size)
  (hE:∀ fuel b o cs x,b < w.heap.size→(∀ i,i < size→w.cell? ⟨b,o+i,none⟩=cs[i]?)→cs.length=size→DataW.trod enc P w 0 sp held fuel e cs=some x→∃ y,E w w.heap.size b o y)
  {fuel:Nat}{cs:List Value}{x:DataW H × List MemPlace}(h:DataW.trod enc P w 0 sp held fuel t cs=some x):∃ v l,cs=[v]∧Sl size E w w.heap.size v l:=by
 rcases DataW.trod_slice ht h with ⟨rfl,_⟩ | ⟨a,len,cap,elems,rest,n,_,rfl,_,hb,hl,hc,hlen,hel,_,_⟩
 ·exact ⟨_,[],rfl,none,0,rfl,by simp,by omega,fun i hi=>absurd hi (by simp)⟩
 ·subst hs
  have key:∀ i,i < len→∃ y,(∃ b o,a=⟨b,o,none⟩∧b < w.heap.size∧E w w.heap.size b (o+i*P.cellsOf e) y):=by
   intro i hi
   have h1:=hel i hi;rw [List.getElem?_eq_getElem (by omega)] at h1
   obtain ⟨cs,hc1,hc2⟩:=Option.bind_eq_some_iff.1 h1;have hblk:=World.cells?_block hc1 h0;obtain ⟨_,hcl,hcc⟩:=World.cells?_some hc1
   have hspot:a.spot=none:=by
    cases hsp:a.spot with
    | none=>rfl
    | some s =>
     exfalso;have hel0:=hel 0 (by omega)
     rw [List.getElem?_eq_getElem (by omega)] at hel0
     obtain ⟨cs0,hd1,_⟩:=Option.bind_eq_some_iff.1 hel0;obtain ⟨_,hd2,hd3⟩:=World.cells?_some hd1;have hd4:=hd3 0 h0;rw [List.getElem?_eq_getElem (by omega)] at hd4
     simp [Addr.add,World.cell?,hsp] at hd4
     split at hd4 <;> simp_all
   obtain ⟨b,o,s⟩:=a;simp only at hspot;subst hspot
   have hbb:b < w.heap.size:=by
    simp only [Addr.add] at hblk;split at hblk <;> exact hblk
   obtain ⟨y,hy⟩:=hE n b (o+i*P.cellsOf e) cs _ hbb (fun j hj=>by
    have:=hcc j hj
    rw [← this];simp only [Addr.add]
    by_cases q1:i*P.cellsOf e=0 <;> by_cases q2:j=0 <;> simp [q1,q2]) hcl hc2
   exact ⟨y,b,o,rfl,hbb,hy⟩
  obtain ⟨l,hl1,hl2⟩:=list_of len _ key;subst hl1;refine ⟨_,l,rfl,some a,cap,rfl,hl,(by have:maxLen=9223372036854775807:=rfl;omega),fun i hi=>?_⟩
  obtain ⟨b,o,ha,hbb,hy⟩:=hl2 i hi;exact ⟨b,o,by rw [ha],hbb,hy⟩
end
end Rd
namespace Hier
open D Num
def ty (n:Int) (t:Ty):Bool:=if t.kind=1∨t.kind=2 then decide (t.cls=0) else if t.kind=3 then decide (0≤t.cls∧t.cls < n) else false
def nil:Cls:=⟨0,[]⟩
def at' (l:List Cls) (i:Nat):Cls:=l.getD i nil
def supOk (i:Nat) (s:Int):Bool:=if i=0 then decide (s = -1) else decide (0≤s∧s < i)
def cls (n:Int) (i:Nat) (c:Cls):Bool:=supOk i c.sup && decide (c.fields.length≤6) && c.fields.all (ty n)
def may (l:List Cls):Bool:=decide (4≤l.length∧l.length≤12) && (List.range l.length).all fun i=>cls l.length i (at' l i)
theorem at_eq {l:List Cls}{i:Nat}(h:i < l.length):at' l i=l[i]:=by simp [at',h]
theorem may_iff (l:List Cls):may l=true↔(4≤l.length∧l.length≤12)∧∀ i (h:i < l.length),cls l.length i l[i]=true:=by
 unfold may;rw [Bool.and_eq_true,decide_eq_true_eq,List.all_eq_true]
 constructor
 ·rintro ⟨h1,h2⟩;exact ⟨h1,fun i h=>by rw [← at_eq h];exact h2 i (by simpa using h)⟩
 ·rintro ⟨h1,h2⟩
  exact ⟨h1,fun i h=>by
                             have h':i < l.length:=by simpa using h
                             rw [at_eq h'];exact h2 i h'⟩
theorem may_false_len {l:List Cls}(h:¬ (4≤l.length∧l.length≤12)):may l=false:=by
 rw [Bool.eq_false_iff];intro h';exact h ((may_iff l).1 h').1
theorem may_false_at {l:List Cls}{i:Nat}(h:i < l.length) (hc:cls l.length i l[i]=false):may l=false:=by
 rw [Bool.eq_false_iff];intro h';rw [((may_iff l).1 h').2 i h] at hc;cases hc
def sup (l:List Cls) (c:Int):Int:=(at' l c.toNat).sup
def Wf (l:List Cls):Prop:=∀ i:Nat,i < l.length→-1≤(at' l i).sup∧(at' l i).sup < i
theorem wf_of_may {l:List Cls}(h:may l=true):Wf l:=by
 intro i hi
 have:=((may_iff l).1 h).2 i hi
 rw [at_eq hi];simp only [cls,supOk,Bool.and_eq_true] at this;obtain ⟨⟨h1,_⟩,_⟩:=this
 split at h1 <;> simp only [decide_eq_true_eq] at h1 <;> omega
theorem sup_ge {l:List Cls}(h:may l=true){c:Int}(h0:0 < c) (hc:c < l.length):0≤sup l c∧sup l c < c:=by
 obtain ⟨_,h2⟩:=(may_iff l).1 h
 have:=h2 c.toNat (by omega)
 simp only [cls,supOk,Bool.and_eq_true] at this;rw [sup,at_eq (by omega)]
 have:=this.1.1
 rw [if_neg (by omega),decide_eq_true_eq] at this
 omega
def upN:Nat→List Cls→Int→List Int
 | 0,_,_=>[]
 | k+1,l,c=>if 0≤c∧c < l.length then c :: upN k l (sup l c) else []
def up (l:List Cls) (c:Int):List Int:=upN (l.length+1) l c
theorem upN_more {l:List Cls}(hw:Wf l):∀ (k m:Nat) (c:Int),c < k→c < m→upN k l c=upN m l c:=by
 intro k
 induction k with
 | zero =>
  intro m c h1 h2
  cases m with
  | zero=>rfl
  | succ m=>rw [upN,upN,if_neg (by omega)]
 | succ k ih =>
  intro m c h1 h2
  cases m with
  | zero=>rw [upN,upN,if_neg (by omega)]
  | succ m =>
   rw [upN,upN]
   split
   ·rename_i h
    have:=hw c.toNat (by omega)
    rw [ih m (sup l c) (by unfold sup;omega) (by unfold sup;omega)]
   ·rfl
theorem up_out {l:List Cls}{c:Int}(h:¬ (0≤c∧c < l.length)):up l c=[]:=by
 rw [up,upN,if_neg h]
theorem up_in {l:List Cls}(hw:Wf l){c:Int}(h:0≤c∧c < l.length):up l c=c :: up l (sup l c):=by
 have:=hw c.toNat (by omega)
 rw [up,upN,if_pos h]
 congr 1
 exact upN_more hw _ _ _ (by unfold sup;omega) (by unfold sup;omega)
def is (l:List Cls) (c d:Int):Bool:=(up l c).contains d
def meet (l:List Cls) (c d:Int):Int:=((up l c).find? fun x=>is l d x).getD (-1)
def below (l:List Cls) (c d:Int):Bool:=may l && is l c d
theorem is_out {l:List Cls}{c d:Int}(h:¬ (0≤c∧c < l.length)):is l c d=false:=by rw [is,up_out h];rfl
theorem is_in {l:List Cls}(hw:Wf l){c d:Int}(h:0≤c∧c < l.length):is l c d=(decide (d=c) || is l (sup l c) d):=by
 rw [is,up_in hw h,List.contains_cons,is]
 congr 1
def refN:Nat→List Cls→Int→Int→Int
 | 0,_,c,_=>c
 | k+1,l,c,d=>if d < c then refN k l (sup l c) d else c
def refBelow (l:List Cls) (c d:Int):Bool:=if c < 0∨d < 0∨(l.length:Int)≤c∨(l.length:Int)≤d then false else decide (refN (c.toNat+1) l c d=d)
theorem is_le {l:List Cls}(hw:Wf l):∀ (k:Nat) (c d:Int),c < k→is l c d=true→0≤d∧d≤c:=by
 intro k
 induction k with
 | zero=>intro c d h1 h2;rw [is_out (by omega)] at h2;cases h2
 | succ k ih =>
  intro c d h1 h2
  by_cases h:0≤c∧c < l.length
  ·rw [is_in hw h,Bool.or_eq_true,decide_eq_true_eq] at h2
   have:=hw c.toNat (by omega)
   rcases h2 with h2 | h2
   ·omega
   ·have:=ih (sup l c) d (by unfold sup;omega) h2
    unfold sup at this;omega
  ·rw [is_out h] at h2;cases h2
theorem is_le' {l:List Cls}(hw:Wf l){c d:Int}(h:is l c d=true):0≤d∧d≤c:=is_le hw (c.toNat+1) c d (by omega) h
theorem is_lt {l:List Cls}{c d:Int}(h:is l c d=true):0≤c∧c < l.length:=by
 by_cases h':0≤c∧c < l.length
 ·exact h'
 ·rw [is_out h'] at h;cases h
theorem refN_eq {l:List Cls}(hw:Wf l):∀ (k:Nat) (c d:Int),c < k→0≤d→c < l.length→decide (refN k l c d=d)=is l c d:=by
 intro k
 induction k with
 | zero=>intro c d h1 h2 _;rw [is_out (by omega),refN,decide_eq_false (by omega)]
 | succ k ih =>
  intro c d h1 h2 h3
  rw [refN]
  by_cases hlt:d < c
  ·rw [if_pos hlt,is_in hw (by omega),show decide (d=c)=false from decide_eq_false (by omega),Bool.false_or]
   have:=hw c.toNat (by omega)
   exact ih _ _ (by unfold sup;omega) h2 (by unfold sup;omega)
  ·rw [if_neg hlt]
   by_cases h0:0≤c
   ·rw [is_in hw (by omega)]
    by_cases e:d=c
    ·subst e;simp
    ·rw [decide_eq_false (by omega),decide_eq_false e,Bool.false_or]
     cases hi:is l (sup l c) d with
     | false=>rfl
     | true =>
      have:=is_le' hw hi
      have:=hw c.toNat (by omega)
      unfold sup at *;omega
   ·rw [is_out (by omega),decide_eq_false (by omega)]
theorem refBelow_eq {l:List Cls}(hw:Wf l) (c d:Int):refBelow l c d=is l c d:=by
 unfold refBelow
 split
 ·rename_i h
  cases hi:is l c d with
  | false=>rfl
  | true =>
   have h1:=is_lt hi;have h2:=is_le' hw hi;omega
 ·exact refN_eq hw _ _ _ (by omega) (by omega) (by omega)
def Best (l:List Cls) (c d j:Int):Prop:=is l c j=true∧is l d j=true∧∀ x,is l c x=true→is l d x=true→x≤j
theorem is_root {l:List Cls}(h:may l=true):∀ (k:Nat) (c:Int),c < k→0≤c→c < l.length→is l c 0=true:=by
 have hw:=wf_of_may h
 intro k
 induction k with
 | zero=>intro c h1 h2;omega
 | succ k ih =>
  intro c h1 h2 h3
  rw [is_in hw ⟨h2,h3⟩]
  by_cases e:c=0
  ·subst e;simp
  ·have:=sup_ge h (by omega) h3
   rw [ih (sup l c) (by omega) (by omega) (by omega),Bool.or_true]
theorem meet_in {l:List Cls}(hw:Wf l){c d:Int}(h:0≤c∧c < l.length):meet l c d=if is l d c then c else meet l (sup l c) d:=by
 rw [meet,up_in hw h,List.find?_cons,meet]
 cases is l d c <;> rfl
theorem meet_best {l:List Cls}(h:may l=true){d:Int}(hd:0≤d∧d < l.length):∀ (k:Nat) (c:Int),c < k→0≤c→c < l.length→Best l c d (meet l c d):=by
 have hw:=wf_of_may h
 intro k
 induction k with
 | zero=>intro c h1 h2;omega
 | succ k ih =>
  intro c h1 h2 h3
  rw [meet_in hw ⟨h2,h3⟩]
  split
  ·rename_i hb
   refine ⟨by rw [is_in hw ⟨h2,h3⟩];simp,hb,fun x hx _=>(is_le' hw hx).2⟩
  ·rename_i hb
   by_cases e:c=0
   ·subst e;rw [is_root h (d.toNat+1) d (by omega) hd.1 hd.2] at hb
    exact absurd rfl hb
   ·have hs:=sup_ge h (by omega) h3
    obtain ⟨h4,h5,h6⟩:=ih (sup l c) (by omega) hs.1 (by omega)
    refine ⟨by rw [is_in hw ⟨h2,h3⟩,h4,Bool.or_true],h5,fun x h7 h8=>h6 x ?_ h8⟩
    rw [is_in hw ⟨h2,h3⟩,Bool.or_eq_true,decide_eq_true_eq] at h7
    rcases h7 with h7 | h7
    ·subst h7;exact absurd h8 hb
    ·exact h7
theorem join_best {l:List Cls}(h:may l=true){c d:Int}(hc:0≤c∧c < l.length) (hd:0≤d∧d < l.length):Best l c d (meet l c d):=meet_best h hd (c.toNat+1) c (by omega) hc.1 hc.2
theorem is_trans {l:List Cls}(hw:Wf l):∀ (k:Nat) (c d e:Int),c < k→is l c d=true→is l d e=true→is l c e=true:=by
 intro k
 induction k with
 | zero=>intro c d e h1 h2;rw [is_out (by omega)] at h2;cases h2
 | succ k ih =>
  intro c d e h1 h2 h3
  have hc:=is_lt h2;rw [is_in hw hc,Bool.or_eq_true,decide_eq_true_eq] at h2
  rcases h2 with rfl | h2
  ·exact h3
  ·have:=hw c.toNat (by omega)
   rw [is_in hw hc,ih (sup l c) d e (by unfold sup;omega) h2 h3,Bool.or_true]
theorem meet_range {l:List Cls}(h:may l=true){c d:Int}(hc:0≤c∧c < l.length) (hd:0≤d∧d < l.length):0≤meet l c d∧meet l c d < l.length:=by
 obtain ⟨h1,_,_⟩:=join_best h hc hd
 have:=is_le' (wf_of_may h) h1
 omega
end Hier
namespace Form
open D Num
def slots:List Ty→Nat
 | []=>0
 | t :: l=>(if t.kind=2 then 2 else 1)+slots l
theorem slots_snoc (l:List Ty) (t:Ty):slots (l++[t])=slots l+(if t.kind=2 then 2 else 1):=by
 induction l with
 | nil=>simp [slots]
 | cons a l ih=>simp only [List.cons_append,slots,ih];omega
theorem slots_take {l:List Ty}{k:Nat}(h:k < l.length):slots (l.take (k+1))=slots (l.take k)+(if l[k].kind=2 then 2 else 1):=by
 rw [List.take_succ_eq_append_getElem h,slots_snoc]
theorem slots_le (l:List Ty):slots l≤2*l.length:=by
 induction l with
 | nil=>simp [slots]
 | cons a l ih=>simp only [slots,List.length_cons];split <;> omega
def wide (k:Int):Int:=if k=2 then 2 else 1
def rng (n lo hi:Int):Bool:=decide (lo≤n∧n < hi)
def nf (l:List Cls) (c:Int):Int:=(Hier.at' l c.toNat).fields.length
def hd (nc ncode:Int) (h:Hd):Bool:=decide (0≤h.lo∧h.lo < h.hi∧h.hi≤ncode) && rng h.go 0 ncode && rng h.cls 0 nc
def ret (nc:Int) (t:Ty):Bool:=decide (t.kind=0∧t.cls=0) || Hier.ty nc t
def head (nc:Int) (m:Me) (most:Int):Bool :=
 m.params.all (Hier.ty nc) && m.handlers.all (hd nc m.code.length) && decide (m.params.length≤4) && ret nc m.ret && rng m.code.length 1 (most+1) && decide (m.handlers.length≤8)
def sa (cl:List Cls) (nm ncode locals:Int) (i:Ins):Bool :=
 if i.op=4∨i.op=5 then rng i.a 0 (locals+1 - wide i.b)
 else if i.op=6∨i.op=7 then rng i.a 1 9
 else if i.op=11∨i.op=12∨i.op=13 then rng i.a 0 ncode
 else if i.op=14∨i.op=15∨i.op=16∨i.op=17∨i.op=18 then rng i.a 0 cl.length
 else if i.op=19 then rng i.a 0 nm
 else if i.op=24 then rng i.a 1 3
 else if 1≤i.op∧i.op≤25 then decide (i.a=0)
 else false
def sb (cl:List Cls) (i:Ins):Bool :=
 if i.op=4∨i.op=5 then rng i.b 1 4
 else if i.op=12 then rng i.b 1 5
 else if i.op=15∨i.op=16 then rng i.a 0 cl.length && rng i.b 0 (nf cl i.a)
 else decide (i.b=0)
def sn (i:Ins):Bool :=
 if i.op=1 then decide (wrap32 i.n=i.n) else if i.op=2 then true else decide (i.n=0)
def sins (cl:List Cls) (nm ncode locals:Int) (i:Ins):Bool :=
 sa cl nm ncode locals i && sb cl i && sn i && decide (i.c=0) && decide (i.args.length=0)
def sme (f:Fi) (m:Me):Bool :=
 head f.classes.length m 400 && decide (m.regs=0) && rng m.stack 0 31 && rng m.locals (slots m.params) 61 && m.code.all (sins f.classes f.methods.length m.code.length m.locals)
def smay (f:Fi):Bool:=Hier.may f.classes && rng f.methods.length 1 9 && f.methods.all (sme f)
theorem head_param {nc:Int}{m:Me}{most:Int}{k:Nat}(h:k < m.params.length) (hf:Hier.ty nc m.params[k]=false):head nc m most=false:=by
 have:m.params.all (Hier.ty nc)=false:=by rw [List.all_eq_false];exact ⟨_,List.getElem_mem h,by rw [hf];simp⟩
 simp [head,this]
theorem head_hd {nc:Int}{m:Me}{most:Int}{k:Nat}(h:k < m.handlers.length) (hf:hd nc m.code.length m.handlers[k]=false):head nc m most=false:=by
 have:m.handlers.all (hd nc m.code.length)=false:=by rw [List.all_eq_false];exact ⟨_,List.getElem_mem h,by rw [hf];simp⟩
 simp [head,this]
theorem all_of {α:Type}{l:List α}{p:α→Bool}(h:∀ j (hj:j < l.length),p l[j]=true):l.all p=true:=by
 rw [List.all_eq_true]
 intro x hx
 obtain ⟨j,hj,rfl⟩:=List.getElem_of_mem hx;exact h j hj
theorem all_not {α:Type}{l:List α}{p:α→Bool}{k:Nat}(h:k < l.length) (hf:p l[k]=false):l.all p=false:=by
 rw [List.all_eq_false];exact ⟨_,List.getElem_mem h,by rw [hf];simp⟩
theorem all_step {α:Type}{l:List α}{p:α→Bool}{k:Nat}(hall:∀ j (h:j < l.length),j < k→p l[j]=true) (hlt:k < l.length) (hc:p l[k]=true):∀ j (h:j < l.length),j < k+1→p l[j]=true:=fun j h hj=>by
 by_cases e:j=k
 ·subst e;exact hc
 ·exact hall j h (by omega)
theorem head_rest {nc:Int}{m:Me}{most:Int}(h1:m.params.all (Hier.ty nc)=true) (h2:m.handlers.all (hd nc m.code.length)=true) :
  head nc m most=(decide (m.params.length≤4) && ret nc m.ret && rng m.code.length 1 (most+1) && decide (m.handlers.length≤8)):=by
 simp only [head,h1,h2,Bool.true_and]
end Form
open Go.ChangeShapes Go.WideShapes Go.ChangeAt Go.RowKit
namespace Rd
open Num
section
variable {H:Type}{enc:TypeId × Value→H}{w:World}{sp:Nat→Bool}{held:Bool}
theorem len1 {cs:List Value}(h:cs.length=1):∃ c0,cs=[c0]:=by
 match cs,h with
 | [c0],_=>exact ⟨c0,rfl⟩
theorem len2 {cs:List Value}(h:cs.length=2):∃ c0 c1,cs=[c0,c1]:=by
 match cs,h with
 | [c0,c1],_=>exact ⟨c0,c1,rfl⟩
theorem len4 {cs:List Value}(h:cs.length=4):∃ c0 c1 c2 c3,cs=[c0,c1,c2,c3]:=by
 match cs,h with
 | [c0,c1,c2,c3],_=>exact ⟨c0,c1,c2,c3,rfl⟩
theorem len6 {cs:List Value}(h:cs.length=6):∃ c0 c1 c2 c3 c4 c5,cs=[c0,c1,c2,c3,c4,c5]:=by
 match cs,h with
 | [c0,c1,c2,c3,c4,c5],_=>exact ⟨c0,c1,c2,c3,c4,c5,rfl⟩
theorem len8 {cs:List Value}(h:cs.length=8):∃ c0 c1 c2 c3 c4 c5 c6 c7,cs=[c0,c1,c2,c3,c4,c5,c6,c7]:=by
 match cs,h with
 | [c0,c1,c2,c3,c4,c5,c6,c7],_=>exact ⟨c0,c1,c2,c3,c4,c5,c6,c7,rfl⟩
theorem cells_int:Try.prog.cellsOf 3=1:=by kernel_rfl
theorem cells_int64:Try.prog.cellsOf 2=1:=by kernel_rfl
theorem cells_ty:Try.prog.cellsOf 51=2:=by kernel_rfl
theorem cells_tys:Try.prog.cellsOf 49=1:=by kernel_rfl
theorem cells_ints:Try.prog.cellsOf 61=1:=by kernel_rfl
theorem cells_cls:Try.prog.cellsOf 70=2:=by kernel_rfl
theorem cells_clss:Try.prog.cellsOf 22=1:=by kernel_rfl
theorem cells_hd:Try.prog.cellsOf 90=4:=by kernel_rfl
theorem cells_hds:Try.prog.cellsOf 53=1:=by kernel_rfl
theorem cells_ins:Try.prog.cellsOf 63=6:=by kernel_rfl
theorem cells_inss:Try.prog.cellsOf 52=1:=by kernel_rfl
theorem cells_me:Try.prog.cellsOf 55=8:=by kernel_rfl
theorem cells_mes:Try.prog.cellsOf 23=1:=by kernel_rfl
theorem cells_fi:Try.prog.cellsOf 25=2:=by kernel_rfl
theorem at_struct {t:TypeId}{fs:Array Field}(ht:Try.prog.underlying t=some (.struct fs)){fuel:Nat}{cs:List Value}{x:DataW H × List MemPlace}(h:DataW.trod enc Try.prog w 0 sp held fuel t cs=some x) :
  cs.length=Try.prog.cellsOf t∧∃ n,∀ (i:Nat) (f:Field),fs[i]? = some f→∃ y,DataW.trod enc Try.prog w 0 sp held n f.type ((cs.drop f.offset).take (Try.prog.cellsOf f.type))=some y:=by
 obtain ⟨xs,n,_,_,hl,hx,hf⟩:=DataW.trod_struct ht h;refine ⟨hl,n,fun i f hi=>?_⟩
 have:=hf i f hi
 have hlt:i < fs.size:=by
  rw [Array.getElem?_eq_some_iff] at hi;exact hi.1
 rw [List.getElem?_eq_getElem (by omega)] at this
 exact ⟨_,this⟩
theorem fld {fs:Array Field}{n:Nat}{cs:List Value}(hf:∀ (i:Nat) (f:Field),fs[i]? = some f→∃ y,DataW.trod enc Try.prog w 0 sp held n f.type ((cs.drop f.offset).take (Try.prog.cellsOf f.type))=some y)
  (i off t k:Nat) (hk:Try.prog.cellsOf t=k) (h:∃ f,fs[i]? = some f∧f.type=t∧f.offset=off):∃ y,DataW.trod enc Try.prog w 0 sp held n t ((cs.drop off).take k)=some y:=by
 obtain ⟨f,h1,h2,h3⟩:=h
 have:=hf i f h1
 rw [h2,h3,hk] at this;exact this
theorem int_of {n:Nat}{v:Value}{y:DataW H × List MemPlace}(h:DataW.trod enc Try.prog w 0 sp held n 3 [v]=some y):∃ k,v=.int .i64 k∧Ok k:=by
 obtain ⟨k,hk,_,hw⟩:=DataW.trod_int Try.underlying3 h;exact ⟨k,by simpa using hk,Ok.of_wf hw⟩
theorem int64_of {n:Nat}{v:Value}{y:DataW H × List MemPlace}(h:DataW.trod enc Try.prog w 0 sp held n 2 [v]=some y):∃ k,v=.int .i64 k∧Ok k:=by
 obtain ⟨k,hk,_,hw⟩:=DataW.trod_int Try.underlying2 h;exact ⟨k,by simpa using hk,Ok.of_wf hw⟩
theorem ty_of {fuel:Nat}{cs:List Value}{x:DataW H × List MemPlace}(h:DataW.trod enc Try.prog w 0 sp held fuel 51 cs=some x):∃ t:D.Ty,cs=[.int .i64 t.kind,.int .i64 t.cls]∧Ok t.kind∧Ok t.cls:=by
 obtain ⟨hl,n,hf⟩:=at_struct Try.underlying51 h;rw [cells_ty] at hl;obtain ⟨c0,c1,rfl⟩:=len2 hl;obtain ⟨y0,h0⟩:=fld hf 0 0 3 _ cells_int ⟨_,rfl,rfl,rfl⟩;obtain ⟨y1,h1⟩:=fld hf 1 1 3 _ cells_int ⟨_,rfl,rfl,rfl⟩;simp only [List.drop_zero,List.take_succ_cons,List.take_zero,List.drop_succ_cons] at h0 h1;obtain ⟨k,rfl,hk⟩:=int_of h0;obtain ⟨c,rfl,hc⟩:=int_of h1;exact ⟨⟨k,c⟩,rfl,hk,hc⟩
theorem tys_of {fuel:Nat}{cs:List Value}{x:DataW H × List MemPlace}(h:DataW.trod enc Try.prog w 0 sp held fuel 49 cs=some x):∃ v l,cs=[v]∧Sl 2 ETy w w.heap.size v l :=
 Sl.of_trod Try.underlying49 cells_ty (by omega) (fun fuel b o cs x hb hc hl h=>by
  obtain ⟨t,rfl,h1,h2⟩:=ty_of h
  exact ⟨t,hc 0 (by omega),hc 1 (by omega),h1,h2⟩) h
theorem ints_of {fuel:Nat}{cs:List Value}{x:DataW H × List MemPlace}(h:DataW.trod enc Try.prog w 0 sp held fuel 61 cs=some x):∃ v l,cs=[v]∧Sl 1 EInt w w.heap.size v l :=
 Sl.of_trod Try.underlying61 cells_int (by omega) (fun fuel b o cs x hb hc hl h=>by
  obtain ⟨c0,rfl⟩:=len1 hl;obtain ⟨k,rfl,hk⟩:=int_of h
  exact ⟨k,hc 0 (by omega),hk⟩) h
theorem cls_of {fuel:Nat}{cs:List Value}{x:DataW H × List MemPlace}(h:DataW.trod enc Try.prog w 0 sp held fuel 70 cs=some x):∃ (c:D.Cls) (v:Value),cs=[.int .i64 c.sup,v]∧Ok c.sup∧Sl 2 ETy w w.heap.size v c.fields:=by
 obtain ⟨hl,n,hf⟩:=at_struct Try.underlying70 h;rw [cells_cls] at hl;obtain ⟨c0,c1,rfl⟩:=len2 hl;obtain ⟨y0,h0⟩:=fld hf 0 0 3 _ cells_int ⟨_,rfl,rfl,rfl⟩;obtain ⟨y1,h1⟩:=fld hf 1 1 49 _ cells_tys ⟨_,rfl,rfl,rfl⟩;simp only [List.drop_zero,List.take_succ_cons,List.take_zero,List.drop_succ_cons] at h0 h1;obtain ⟨k,rfl,hk⟩:=int_of h0;obtain ⟨v,l,hv,hs⟩:=tys_of h1;simp only [List.cons.injEq,and_true] at hv;subst hv;exact ⟨⟨k,l⟩,_,rfl,hk,hs⟩
theorem clss_of {fuel:Nat}{cs:List Value}{x:DataW H × List MemPlace}(h:DataW.trod enc Try.prog w 0 sp held fuel 22 cs=some x):∃ v l,cs=[v]∧Sl 2 ECls w w.heap.size v l :=
 Sl.of_trod Try.underlying22 cells_cls (by omega) (fun fuel b o cs x hb hc hl h=>by
  obtain ⟨c,v,rfl,h1,h2⟩:=cls_of h
  exact ⟨c,hc 0 (by omega),h1,v,hc 1 (by omega),h2⟩) h
theorem hd_of {fuel:Nat}{cs:List Value}{x:DataW H × List MemPlace}(h:DataW.trod enc Try.prog w 0 sp held fuel 90 cs=some x):∃ d:D.Hd,cs=[.int .i64 d.lo,.int .i64 d.hi,.int .i64 d.go,.int .i64 d.cls]∧Ok d.lo∧Ok d.hi∧Ok d.go∧Ok d.cls:=by
 obtain ⟨hl,n,hf⟩:=at_struct Try.underlying90 h;rw [cells_hd] at hl;obtain ⟨c0,c1,c2,c3,rfl⟩:=len4 hl;obtain ⟨y0,h0⟩:=fld hf 0 0 3 _ cells_int ⟨_,rfl,rfl,rfl⟩;obtain ⟨y1,h1⟩:=fld hf 1 1 3 _ cells_int ⟨_,rfl,rfl,rfl⟩;obtain ⟨y2,h2⟩:=fld hf 2 2 3 _ cells_int ⟨_,rfl,rfl,rfl⟩;obtain ⟨y3,h3⟩:=fld hf 3 3 3 _ cells_int ⟨_,rfl,rfl,rfl⟩;simp only [List.drop_zero,List.take_succ_cons,List.take_zero,List.drop_succ_cons] at h0 h1 h2 h3;obtain ⟨k0,rfl,q0⟩:=int_of h0;obtain ⟨k1,rfl,q1⟩:=int_of h1;obtain ⟨k2,rfl,q2⟩:=int_of h2;obtain ⟨k3,rfl,q3⟩:=int_of h3;exact ⟨⟨k0,k1,k2,k3⟩,rfl,q0,q1,q2,q3⟩
theorem hds_of {fuel:Nat}{cs:List Value}{x:DataW H × List MemPlace}(h:DataW.trod enc Try.prog w 0 sp held fuel 53 cs=some x):∃ v l,cs=[v]∧Sl 4 EHd w w.heap.size v l :=
 Sl.of_trod Try.underlying53 cells_hd (by omega) (fun fuel b o cs x hb hc hl h=>by
  obtain ⟨t,rfl,h1,h2,h3,h4⟩:=hd_of h
  exact ⟨t,hc 0 (by omega),hc 1 (by omega),hc 2 (by omega),hc 3 (by omega),h1,h2,h3,h4⟩) h
theorem ins_of {fuel:Nat}{cs:List Value}{x:DataW H × List MemPlace}(h:DataW.trod enc Try.prog w 0 sp held fuel 63 cs=some x):∃ (i:D.Ins) (v:Value),cs=[.int .i64 i.op,.int .i64 i.a,.int .i64 i.b,.int .i64 i.c,.int .i64 i.n,v]∧(Ok i.op∧Ok i.a∧Ok i.b∧Ok i.c∧Ok i.n)∧Sl 1 EInt w w.heap.size v i.args:=by
 obtain ⟨hl,n,hf⟩:=at_struct Try.underlying63 h;rw [cells_ins] at hl;obtain ⟨c0,c1,c2,c3,c4,c5,rfl⟩:=len6 hl;obtain ⟨y0,h0⟩:=fld hf 0 0 3 _ cells_int ⟨_,rfl,rfl,rfl⟩;obtain ⟨y1,h1⟩:=fld hf 1 1 3 _ cells_int ⟨_,rfl,rfl,rfl⟩;obtain ⟨y2,h2⟩:=fld hf 2 2 3 _ cells_int ⟨_,rfl,rfl,rfl⟩;obtain ⟨y3,h3⟩:=fld hf 3 3 3 _ cells_int ⟨_,rfl,rfl,rfl⟩;obtain ⟨y4,h4⟩:=fld hf 4 4 2 _ cells_int64 ⟨_,rfl,rfl,rfl⟩;obtain ⟨y5,h5⟩:=fld hf 5 5 61 _ cells_ints ⟨_,rfl,rfl,rfl⟩;simp only [List.drop_zero,List.take_succ_cons,List.take_zero,List.drop_succ_cons] at h0 h1 h2 h3 h4 h5;obtain ⟨k0,rfl,q0⟩:=int_of h0;obtain ⟨k1,rfl,q1⟩:=int_of h1;obtain ⟨k2,rfl,q2⟩:=int_of h2;obtain ⟨k3,rfl,q3⟩:=int_of h3;obtain ⟨k4,rfl,q4⟩:=int64_of h4;obtain ⟨v,l,hv,hs⟩:=ints_of h5;simp only [List.cons.injEq,and_true] at hv;subst hv;exact ⟨⟨k0,k1,k2,k3,k4,l⟩,_,rfl,⟨q0,q1,q2,q3,q4⟩,hs⟩
theorem inss_of {fuel:Nat}{cs:List Value}{x:DataW H × List MemPlace}(h:DataW.trod enc Try.prog w 0 sp held fuel 52 cs=some x):∃ v l,cs=[v]∧Sl 6 EIns w w.heap.size v l :=
 Sl.of_trod Try.underlying52 cells_ins (by omega) (fun fuel b o cs x hb hc hl h=>by
  obtain ⟨i,v,rfl,h1,h2⟩:=ins_of h
  exact ⟨i,hc 0 (by omega),hc 1 (by omega),hc 2 (by omega),hc 3 (by omega),hc 4 (by omega),h1,v,hc 5 (by omega),h2⟩) h
theorem me_of {fuel:Nat}{cs:List Value}{x:DataW H × List MemPlace}(h:DataW.trod enc Try.prog w 0 sp held fuel 55 cs=some x):∃ (m:D.Me) (vp vc vh:Value),cs=[vp,.int .i64 m.ret.kind,.int .i64 m.ret.cls,.int .i64 m.stack,.int .i64 m.locals,.int .i64 m.regs,vc,vh] ∧
  (Ok m.ret.kind∧Ok m.ret.cls∧Ok m.stack∧Ok m.locals∧Ok m.regs)∧Sl 2 ETy w w.heap.size vp m.params∧Sl 6 EIns w w.heap.size vc m.code∧Sl 4 EHd w w.heap.size vh m.handlers:=by
 obtain ⟨hl,n,hf⟩:=at_struct Try.underlying55 h;rw [cells_me] at hl;obtain ⟨c0,c1,c2,c3,c4,c5,c6,c7,rfl⟩:=len8 hl;obtain ⟨y0,h0⟩:=fld hf 0 0 49 _ cells_tys ⟨_,rfl,rfl,rfl⟩;obtain ⟨y1,h1⟩:=fld hf 1 1 51 _ cells_ty ⟨_,rfl,rfl,rfl⟩;obtain ⟨y2,h2⟩:=fld hf 2 3 3 _ cells_int ⟨_,rfl,rfl,rfl⟩;obtain ⟨y3,h3⟩:=fld hf 3 4 3 _ cells_int ⟨_,rfl,rfl,rfl⟩;obtain ⟨y4,h4⟩:=fld hf 4 5 3 _ cells_int ⟨_,rfl,rfl,rfl⟩;obtain ⟨y5,h5⟩:=fld hf 5 6 52 _ cells_inss ⟨_,rfl,rfl,rfl⟩;obtain ⟨y6,h6⟩:=fld hf 6 7 53 _ cells_hds ⟨_,rfl,rfl,rfl⟩;simp only [List.drop_zero,List.take_succ_cons,List.take_zero,List.drop_succ_cons] at h0 h1 h2 h3 h4 h5 h6;obtain ⟨v0,l0,hv0,hs0⟩:=tys_of h0;obtain ⟨t,ht,ht1,ht2⟩:=ty_of h1;obtain ⟨k2,rfl,q2⟩:=int_of h2;obtain ⟨k3,rfl,q3⟩:=int_of h3;obtain ⟨k4,rfl,q4⟩:=int_of h4;obtain ⟨v5,l5,hv5,hs5⟩:=inss_of h5;obtain ⟨v6,l6,hv6,hs6⟩:=hds_of h6;simp only [List.cons.injEq,and_true] at hv0 ht hv5 hv6;obtain ⟨rfl,rfl⟩:=ht;subst hv0 hv5 hv6;exact ⟨⟨l0,t,k2,k3,k4,l5,l6⟩,_,_,_,rfl,⟨ht1,ht2,q2,q3,q4⟩,hs0,hs5,hs6⟩
theorem mes_of {fuel:Nat}{cs:List Value}{x:DataW H × List MemPlace}(h:DataW.trod enc Try.prog w 0 sp held fuel 23 cs=some x):∃ v l,cs=[v]∧Sl 8 EMe w w.heap.size v l :=
 Sl.of_trod Try.underlying23 cells_me (by omega) (fun fuel b o cs x hb hc hl h=>by
  obtain ⟨m,vp,vc,vh,rfl,h1,h2,h3,h4⟩:=me_of h
  exact ⟨m,vp,vc,vh,hc 0 (by omega),hc 1 (by omega),hc 2 (by omega),hc 3 (by omega),hc 4 (by omega),hc 5 (by omega),hc 6 (by omega),hc 7 (by omega),h1,h2,h3,h4⟩) h
theorem fi_of {fuel:Nat}{cs:List Value}{x:DataW H × List MemPlace}(h:DataW.trod enc Try.prog w 0 sp held fuel 25 cs=some x):∃ (f:D.Fi) (vc vm:Value),cs=[vc,vm]∧Sl 2 ECls w w.heap.size vc f.classes∧Sl 8 EMe w w.heap.size vm f.methods:=by
 obtain ⟨hl,n,hf⟩:=at_struct Try.underlying25 h;rw [cells_fi] at hl;obtain ⟨c0,c1,rfl⟩:=len2 hl;obtain ⟨y0,h0⟩:=fld hf 0 0 22 _ cells_clss ⟨_,rfl,rfl,rfl⟩;obtain ⟨y1,h1⟩:=fld hf 1 1 23 _ cells_mes ⟨_,rfl,rfl,rfl⟩;simp only [List.drop_zero,List.take_succ_cons,List.take_zero,List.drop_succ_cons] at h0 h1;obtain ⟨v0,l0,hv0,hs0⟩:=clss_of h0;obtain ⟨v1,l1,hv1,hs1⟩:=mes_of h1;simp only [List.cons.injEq,and_true] at hv0 hv1;subst hv0 hv1;exact ⟨⟨l0,l1⟩,_,_,rfl,hs0,hs1⟩
set_option maxRecDepth 100000 in
theorem open_file {r:Reach}{b0:Nat}{v:Value}{d:DataW H}{ps:List MemPlace}(hval:Value.okWide Try.prog w r b0 25 v) (hd:DataW.Trod enc Try.prog w 0 sp held 25 v d ps):∃ f,VFi w w.heap.size v f:=by
 obtain ⟨cs,rfl,_⟩:=okWide_struct Try.underlying25 hval;obtain ⟨fuel,hf⟩:=hd;obtain ⟨f,vc,vm,hv,hs,hm⟩:=fi_of hf;simp only [Value.cells] at hv;refine ⟨f,vc,vm,?_,hs,hm⟩
 congr 1
 exact Array.toList_inj.1 (by simpa using hv)
end
end Rd
namespace HierW
open Num Rd D
def Cs (w:World) (v:Value) (l:List Cls):Prop:=Sl 2 ECls w w.heap.size v l
theorem Cs.next {w w':World}{v:Value}{l:List Cls}(h:Cs w v l) (hb:Below w.heap.size w w'):Cs w' v l:=Sl.mono mCls h hb hb.size
theorem ret_bool {a b:Bool}(h:a=b):Ending.returned (.bool a)=.returned (.bool b):=by rw [h]
theorem ret_int {k:IntKind}{a b:Int}(h:a=b):Ending.returned (.int k a)=.returned (.int k b):=by rw [h]
theorem type (a:Option Addr) (n cap:Nat) (t:Ty) (w:World):Calls Try.prog 141 #[.slice a n cap,.agg #[.int .i64 t.kind,.int .i64 t.cls]] w fun e w'=>e=.returned (.bool (Hier.ty n t))∧Below w.heap.size w w':=by
 obtain ⟨k,c⟩:=t;have E:Hid (Hier.ty n ⟨k,c⟩=if k=1∨k=2 then decide (c=0) else if k=3 then decide (0≤c∧c < n) else false):=rfl
 go_enter Try.func141,Try.ntmps141
 go_wp2
 all_goals go_ret
 all_goals go_tidy
 all_goals refine ⟨ret_bool ?_,Rd.byB⟩
 all_goals rw [E.out]
 all_goals simp_all
 all_goals first | rfl | (intros;omega)
theorem rtype (a:Option Addr) (n cap:Nat) (t:Ty) (w:World):Calls Try.prog 98 #[.slice a n cap,.agg #[.int .i64 t.kind,.int .i64 t.cls]] w fun e w'=>e=.returned (.bool (Hier.ty n t))∧Below w.heap.size w w':=by
 obtain ⟨k,c⟩:=t;have E:Hid (Hier.ty n ⟨k,c⟩=if k=1∨k=2 then decide (c=0) else if k=3 then decide (0≤c∧c < n) else false):=rfl
 go_enter Try.func98,Try.ntmps98
 go_wp2
 all_goals go_ret
 all_goals go_tidy
 all_goals refine ⟨ret_bool ?_,Rd.byB⟩
 all_goals rw [E.out]
 all_goals simp_all
 all_goals first | rfl | (intros;omega)
theorem kept {B:Nat}{w w':World}{b o:Nat}{v:Value}(hb:Below B w w') (hlt:b < B) (h:w.cell? ⟨b,o,none⟩=some v):w'.cell? ⟨b,o,none⟩=some v:=(hb.cell (p:=⟨b,o,none⟩) hlt).trans h
theorem cls_false {n:Int}{i:Nat}{c:Cls}(h:Hier.supOk i c.sup=false∨6 < c.fields.length):Hier.cls n i c=false:=by
 unfold Hier.cls
 rcases h with h | h
 ·rw [h];rfl
 ·rw [decide_eq_false (by omega)];simp
theorem cls_false_at {n:Int}{i j:Nat}{c:Cls}(h:j < c.fields.length) (hf:Hier.ty n c.fields[j]=false):Hier.cls n i c=false:=by
 have:c.fields.all (Hier.ty n)=false:=by
  rw [List.all_eq_false];exact ⟨_,List.getElem_mem h,by rw [hf];simp⟩
 unfold Hier.cls;rw [this];simp
theorem cls_true {n:Int}{i:Nat}{c:Cls}(hs:Hier.supOk i c.sup=true) (hl:c.fields.length≤6) (hf:∀ j (h:j < c.fields.length),Hier.ty n c.fields[j]=true):Hier.cls n i c=true:=by
 unfold Hier.cls;rw [hs,decide_eq_true hl];simp only [Bool.true_and,List.all_eq_true]
 intro x hx
 obtain ⟨j,hj,rfl⟩:=List.getElem_of_mem hx;exact hf j hj
theorem all_next {l:List Cls}{n:Int}{k:Nat}(hall:∀ j (h:j < l.length),j < k→Hier.cls n j l[j]=true) (hlt:k < l.length) (hc:Hier.cls n k l[k]=true):∀ j (h:j < l.length),j < k+1→Hier.cls n j l[j]=true:=fun j h hj=>by
 by_cases e:j=k
 ·subst e;exact hc
 ·exact hall j h (by omega)
theorem tys_next {l:List Ty}{n:Int}{k:Nat}(hall:∀ j (h:j < l.length),j < k→Hier.ty n l[j]=true) (hlt:k < l.length) (hc:Hier.ty n l[k]=true):∀ j (h:j < l.length),j < k+1→Hier.ty n l[j]=true:=fun j h hj=>by
 by_cases e:j=k
 ·subst e;exact hc
 ·exact hall j h (by omega)
theorem at_of {α:Type}{l:List α}{k:Nat}(h:k < l.length):∃ c,Hid (l[k]=c):=⟨_,rfl⟩
set_option maxRecDepth 100000 in
theorem may (v:Value) (l:List Cls) (w:World) (h:Cs w v l):Calls Try.prog 88 #[v] w fun e w'=>e=.returned (.bool (Hier.may l))∧Below w.heap.size w w':=by
 obtain ⟨a,cap,rfl,hlc,hcc,hel⟩:=h
 by_cases q1:l.length < 4
 ·have e1:=Lib.hid (Hier.may_false_len (l:=l) (by omega))
  go_enter Try.func88,Try.ntmps88
  go_wp2
  all_goals go_ret
  all_goals exact ⟨ret_bool e1.out.symm,Rd.byB⟩
 by_cases q2:12 < l.length
 ·have e1:=Lib.hid (Hier.may_false_len (l:=l) (by omega))
  go_enter Try.func88,Try.ntmps88
  go_wp2
  all_goals go_ret
  all_goals exact ⟨ret_bool e1.out.symm,Rd.byB⟩
 go_enter Try.func88,Try.ntmps88
 go_wp2
 go_loopw [17] (fun i wr=>∃ k:Nat,k≤l.length∧i=.int .i64 k∧Below w.heap.size w wr∧Hid (∀ j (h:j < l.length),j < k→Hier.cls l.length j l[j]=true)) (fun i _=>l.length - (intOf i).toNat)
 case atStart=>exact ⟨0,by omega,rfl,Rd.byB,fun j _ h=>absurd h (by omega)⟩
 case round =>
  obtain ⟨k,hk,rfl,hbw,hall⟩:=hrel
  by_cases hlt:k < l.length
  ·obtain ⟨b,o,rfl,hb,he⟩:=hel k hlt;have hno:=Lib.hid (fun hc=>Hier.may_false_at (l:=l) hlt hc);have hyes:=Lib.hid (all_next hall.out hlt);obtain ⟨c,hc⟩:=at_of hlt;rw [hc.out] at he hno hyes;obtain ⟨c,fl⟩:=c;obtain ⟨g1,g2,fv,g3,fa,fcap,rfl,flc,fcc,fel⟩:=he;simp only at g1 g2 g3 flc fel;have k1:=kept hbw hb g1;have k2:=kept hbw hb g3;have hbs:=hbw.size;clear hel g1 g3
   go_wp2_with (go_at_call 141;refine (type _ _ _ _ _).mono ?_;rintro e w1 ⟨rfl,hb1⟩)
   all_goals first
    | (
           go_ret;refine ⟨ret_bool (hno.out (cls_false ?_)).symm,Rd.byB⟩;simp only [Hier.supOk]
           (repeat' split) <;> simp <;> omega)
    | skip
   all_goals
    have hfl:fl.length≤6:=by omega
    have hsup:Hid (Hier.supOk k c=true):=by
     show Hier.supOk k c=true
     unfold Hier.supOk
     split <;> rw [decide_eq_true_eq] <;> omega
    go_loopw [53] (fun i wr2=>∃ m:Nat,m≤fl.length∧i=.int .i64 m∧Below w.heap.size w wr2∧Hid (∀ j (h:j < fl.length),j < m→Hier.ty l.length fl[j]=true)) (fun i _=>fl.length - (intOf i).toNat)
    case atStart=>exact ⟨0,by omega,rfl,Rd.byB,fun j _ h=>absurd h (by omega)⟩
    case round =>
     obtain ⟨m,hm,rfl,hbw2,hall2⟩:=hrel;have hbs2:=hbw2.size
     by_cases hlt2:m < fl.length
     ·obtain ⟨fb,fo,rfl,hfb,fe⟩:=fel m hlt2;obtain ⟨f1,f2,_,_⟩:=fe;have hyes2:=Lib.hid (tys_next hall2.out hlt2);have hno2:=Lib.hid (fun hf=>hno.out (cls_false_at (c:=⟨c,fl⟩) hlt2 hf));obtain ⟨t,ht⟩:=at_of hlt2;rw [ht.out] at f1 f2 hyes2 hno2;have p1:=kept hbw2 hfb f1;have p2:=kept hbw2 hfb f2;clear fel f1 f2;obtain ⟨tb,htb⟩:∃ tb,Hid (Hier.ty l.length t=tb):=⟨_,rfl⟩
      cases tb
      ·go_wp2_with (go_at_call 141;refine (type _ _ _ t _).mono ?_;rw [htb.out];rintro e w1 ⟨rfl,hb1⟩)
       go_ret;exact ⟨ret_bool (hno2.out htb.out).symm,(hbw2.alloc (by omega) _).trans (hb1.mono (by simp;omega))⟩
      ·go_wp2_with (go_at_call 141;refine (type _ _ _ t _).mono ?_;rw [htb.out];rintro e w1 ⟨rfl,hb1⟩)
       go_roundw
       case rel=>exact ⟨m+1,by omega,by go_num,(hbw2.alloc (by omega) _).trans (hb1.mono (by simp;omega)),hyes2.out htb.out⟩
       case measure=>simp [intOf];omega
     ·obtain rfl:m=fl.length:=by omega
      have hnext:=Lib.hid (hyes.out (cls_true (c:=⟨c,fl⟩) hsup.out hfl (fun j hj=>hall2.out j hj hj)))
      go_wp2
      go_roundw
      case rel=>exact ⟨k+1,by omega,by go_num,hbw2,hnext.out⟩
      case measure=>simp [intOf];omega
  ·have e1:Hid (Hier.may l=true):=(Hier.may_iff l).2 ⟨by omega,fun j h=>hall.out j h (by omega)⟩
   go_wp2
   all_goals go_ret
   all_goals exact ⟨ret_bool e1.out.symm,hbw⟩
end HierW
namespace FormW
open Num Rd D HierW
theorem sin (n lo hi:Int) (w:World):Calls Try.prog 89 #[.int .i64 n,.int .i64 lo,.int .i64 hi] w fun e w'=>e=.returned (.bool (Form.rng n lo hi))∧w=w':=by
 go_enter Try.func89,Try.ntmps89
 go_wp2
 all_goals go_ret
 all_goals go_tidy
 all_goals refine ⟨ret_bool ?_,rfl⟩
 all_goals simp_all [Form.rng]
 all_goals (intros;omega)
theorem name_world {G:World→Prop}{w:World}(R:World→Prop) (hR:R w) (h:∀ W,R W→G W):G w:=h w hR
def Ts (w:World) (v:Value) (l:List Ty):Prop:=Sl 2 ETy w w.heap.size v l
theorem Ts.next {w w':World}{v:Value}{l:List Ty}(h:Ts w v l) (hb:Below w.heap.size w w'):Ts w' v l:=Sl.mono mTy h hb hb.size
theorem lt_cell {W:World}{b o:Nat}{v:Value}(h:W.cell? ⟨b,o,none⟩=some v):b < W.heap.size:=by
 unfold World.cell? at h
 split at h
 ·rename_i hx
  exact (Array.getElem?_eq_some_iff.1 hx).1
 ·cases h
theorem Ts.one {w:World}{b:Nat}{k c:Int}(h1:w.cell? ⟨b,0,none⟩=some (.int .i64 k)) (h2:w.cell? ⟨b,1,none⟩=some (.int .i64 c)) (o1:Ok k) (o2:Ok c):Ts w (.slice (some ⟨b,0,none⟩) 1 1) [⟨k,c⟩]:=by
 refine ⟨some ⟨b,0,none⟩,1,rfl,by simp,by omega,fun i hi=>?_⟩
 obtain rfl:i=0:=by simpa using hi
 exact ⟨b,0,rfl,lt_cell h1,h1,h2,o1,o2⟩
theorem slots_end {l:List Ty}{k:Nat}(h:¬ k < l.length) (hk:k≤l.length):Form.slots (l.take k)=Form.slots l:=by
 rw [List.take_of_length_le (by omega)]
theorem slots (v:Value) (l:List Ty) (w:World) (h:Ts w v l) (hs:l.length≤1000000000):Calls Try.prog 92 #[v] w fun e w'=>e=.returned (.int .i64 (Form.slots l:Nat))∧Below w.heap.size w w':=by
 obtain ⟨a,cap,rfl,hlc,hcc,hel⟩:=h
 go_enter Try.func92,Try.ntmps92
 go_wp2
 go_loopw [3,8] (fun n i wr=>∃ k:Nat,k≤l.length∧i=.int .i64 k∧n=.int .i64 (Form.slots (l.take k):Nat)∧Below w.heap.size w wr) (fun _ i _=>l.length - (intOf i).toNat)
 case atStart=>exact ⟨0,by omega,rfl,rfl,Below.refl _ _⟩
 case round =>
  obtain ⟨k,hk,rfl,rfl,hbw⟩:=hrel;have hbs:=hbw.size;have hle:=Form.slots_le (l.take k);have hlt':(l.take k).length≤k:=List.length_take_le _ _
  by_cases hlt:k < l.length
  ·obtain ⟨b,o,rfl,hb,he⟩:=hel k hlt;have hst:=Lib.hid (Form.slots_take hlt);obtain ⟨t,ht⟩:=at_of hlt;rw [ht.out] at he hst;obtain ⟨g1,g2,_,_⟩:=he;have k1:=kept hbw hb g1;have k2:=kept hbw hb g2;obtain ⟨kd,c⟩:=t;simp only at k1 k2;obtain ⟨S,hS⟩:∃ S,Hid (Form.slots (l.take k)=S):=⟨_,rfl⟩;rw [hS.out] at hst hle ⊢;have hS2:(S:Int)≤2000000000:=by omega
   clear hel g1 g2 hlt'
   by_cases q:kd=2
   ·subst q
    go_wp2
    go_roundw
    case rel=>exact ⟨k+1,by omega,by go_num,by rw [hst.out];simp;omega,Rd.byB⟩
    case measure=>simp [intOf];omega
   ·have q':(kd==2)=false:=by simpa using q
    go_wp2
    go_roundw
    case rel=>exact ⟨k+1,by omega,by go_num,by rw [hst.out,if_neg q];simp,Rd.byB⟩
    case measure=>simp [intOf];omega
  ·have hst:=Lib.hid (slots_end hlt hk);clear hel
   go_wp2
   go_ret;exact ⟨ret_int (by rw [hst.out]),hbw⟩
theorem slotsV (v:Value) (l:List Ty) (S:Nat) (w:World) (h:Ts w v l) (hs:l.length≤1000000000) (hS:Form.slots l=S):Calls Try.prog 92 #[v] w fun e w'=>e=.returned (.int .i64 S)∧Below w.heap.size w w':=by
 subst hS;exact slots v l w h hs
theorem slots_one (k c:Int):(Form.slots [⟨k,c⟩]:Int)=Form.wide k:=by
 simp only [Form.slots,Form.wide];split <;> rfl
theorem sinV (n lo hi:Int) (p:Bool) (w:World) (hp:Form.rng n lo hi=p):Calls Try.prog 89 #[.int .i64 n,.int .i64 lo,.int .i64 hi] w fun e w'=>e=.returned (.bool p)∧w=w':=by
 subst hp;exact sin n lo hi w
theorem sin' (n lo hi:Int) (w:World):Calls Try.prog 89 #[.int .i64 n,.int .i64 lo,.int .i64 hi] w fun e w'=>e=.returned (.bool (Form.rng n lo hi))∧w'=w:=(sin n lo hi w).mono fun e w' ⟨h1,h2⟩=>⟨h1,h2.symm⟩
theorem ty_s1:Try.prog.underlying 51=some (.struct (Try.prog.fieldsOf 51)):=by kernel_rfl
theorem ty_s2:Try.prog.stoodInHeld 51=false:=by kernel_rfl
theorem ty_s3:Try.prog.eqGuardType Try.prog.depth 51=false:=by kernel_rfl
theorem ty_s4 : (Try.prog.fieldsOf 51).toList = [⟨"Kind", 3, 0, false, "", "", 0⟩, ⟨"Class", 3, 1, false, "", "", 8⟩] := by kernel_rfl
theorem run_eql_ty (k c k' c':Int) (w:World):(binOp .eql 51 (.agg #[.int .i64 k,.int .i64 c]) (.agg #[.int .i64 k',.int .i64 c'])).run Try.prog w=.ok (.bool (k==k' && c==c')) w:=by
 rw [run_eql_struct,run_equalIn_agg _ 9999 51 _ _ ty_s1 ty_s2,ty_s4];simp [Op.eqFields,Sem.run_bind,go_sem]
 by_cases h1:k=k' <;> by_cases h2:c=c' <;> simp [h1,h2]
theorem run_neq_ty (k c k' c':Int) (w:World):(binOp .neq 51 (.agg #[.int .i64 k,.int .i64 c]) (.agg #[.int .i64 k',.int .i64 c'])).run Try.prog w=.ok (.bool (!(k==k' && c==c'))) w:=by
 rw [run_neq_struct,run_equalIn_agg _ 9999 51 _ _ ty_s1 ty_s2,ty_s4];simp [Op.eqFields,Sem.run_bind,go_sem]
 by_cases h1:k=k' <;> by_cases h2:c=c' <;> simp [h1,h2]
theorem run_guard_ty (op:BinOp) (x y:Operand) (xs ys:Array Value) (w:World):(eqGuard op 51 x y (.agg xs) (.agg ys)).run Try.prog w=.ok () w:=run_eqGuard_agg w op 51 x y xs ys ty_s3
end FormW
namespace HierW
open Num Rd D
theorem cls_sup0 {n:Int}{c:Cls}(h:c.sup≠-1):Hier.cls n 0 c=false:=cls_false (.inl (by simp [Hier.supOk,h]))
set_option maxRecDepth 100000 in
theorem rmay (v:Value) (l:List Cls) (w:World) (h:Cs w v l):Calls Try.prog 49 #[v] w fun e w'=>e=.returned (.bool (Hier.may l))∧Below w.heap.size w w':=by
 obtain ⟨a,cap,rfl,hlc,hcc,hel⟩:=h
 by_cases q1:l.length < 4
 ·have e1:=Lib.hid (Hier.may_false_len (l:=l) (by omega))
  go_enter Try.func49,Try.ntmps49
  go_wp2
  all_goals go_ret
  all_goals exact ⟨ret_bool e1.out.symm,Rd.byB⟩
 by_cases q2:12 < l.length
 ·have e1:=Lib.hid (Hier.may_false_len (l:=l) (by omega))
  go_enter Try.func49,Try.ntmps49
  go_wp2
  all_goals go_ret
  all_goals exact ⟨ret_bool e1.out.symm,Rd.byB⟩
 obtain ⟨b,o,rfl,hb,he⟩:=hel 0 (by omega)
 obtain ⟨c0,hc0⟩:=at_of (l:=l) (k:=0) (by omega)
 have hno0:=Lib.hid (Hier.may_false_at (l:=l) (i:=0) (show 0 < l.length by omega))
 rw [hc0.out] at he hno0;have z1:=he.1;rw [Nat.zero_mul,Nat.add_zero] at z1;clear he
 by_cases q3:c0.sup = -1
 case neg =>
  have q3':(c0.sup != -1)=true:=by simpa using q3
  have e1:=Lib.hid (hno0.out (cls_sup0 q3))
  go_enter Try.func49,Try.ntmps49
  go_wp2
  all_goals go_ret
  all_goals exact ⟨ret_bool e1.out.symm,Rd.byB⟩
 have Q3:=Lib.hid q3;rw [q3] at z1;clear q3
 go_enter Try.func49,Try.ntmps49
 go_wp2
 go_loopw [4] (fun i wr=>∃ k:Nat,k≤l.length∧i=.int .i64 k∧Below w.heap.size w wr∧Hid (∀ j (h:j < l.length),j < k→Hier.cls l.length j l[j]=true)) (fun i _=>l.length - (intOf i).toNat)
 case atStart=>exact ⟨0,by omega,rfl,Rd.byB,fun j _ h=>absurd h (by omega)⟩
 case round =>
  obtain ⟨k,hk,rfl,hbw,hall⟩:=hrel
  by_cases hlt:k < l.length
  ·obtain ⟨b',o',hbo,hb,he⟩:=hel k hlt;simp only [Option.some.injEq,Addr.mk.injEq,and_true] at hbo;obtain ⟨rfl,rfl⟩:=hbo;have hno:=Lib.hid (fun hc=>Hier.may_false_at (l:=l) hlt hc);have hyes:=Lib.hid (all_next hall.out hlt)
   have hk0:Hid (k=0→(l[k]).sup = -1):=fun h0=>by
    have:l[k]=c0:=by rw [← hc0.out];congr
    rw [this];exact Q3.out
   obtain ⟨c,hc⟩:=at_of hlt;rw [hc.out] at he hno hyes hk0;obtain ⟨c,fl⟩:=c;obtain ⟨g1,g2,fv,g3,fa,fcap,rfl,flc,fcc,fel⟩:=he;simp only at g1 g2 g3 flc fel;have k1:=kept hbw hb g1;have k2:=kept hbw hb g3;have hbs:=hbw.size;clear hel
   go_wp2
   all_goals first
    | (
           go_ret;refine ⟨ret_bool (hno.out (cls_false ?_)).symm,Rd.byB⟩;simp only [Hier.supOk]
           (repeat' split) <;> simp <;> omega)
    | skip
   all_goals
    have hfl:fl.length≤6:=by omega
    have hsup:Hid (Hier.supOk k c=true):=by
     show Hier.supOk k c=true
     have:=hk0.out
     unfold Hier.supOk
     split <;> rw [decide_eq_true_eq] <;> first | omega | exact this ‹_›
    go_loopw [5] (fun i wr2=>∃ m:Nat,m≤fl.length∧i=.int .i64 m∧Below w.heap.size w wr2∧Hid (∀ j (h:j < fl.length),j < m→Hier.ty l.length fl[j]=true)) (fun i _=>fl.length - (intOf i).toNat)
    case atStart=>exact ⟨0,by omega,rfl,Rd.byB,fun j _ h=>absurd h (by omega)⟩
    case round =>
     obtain ⟨m,hm,rfl,hbw2,hall2⟩:=hrel;have hbs2:=hbw2.size;have r1:=kept hbw2 hb g1;have r2:=kept hbw2 hb g3
     by_cases hlt2:m < fl.length
     ·obtain ⟨fb,fo,rfl,hfb,fe⟩:=fel m hlt2;obtain ⟨f1,f2,_,_⟩:=fe;have hyes2:=Lib.hid (tys_next hall2.out hlt2);have hno2:=Lib.hid (fun hf=>hno.out (cls_false_at (c:=⟨c,fl⟩) hlt2 hf));obtain ⟨t,ht⟩:=at_of hlt2;rw [ht.out] at f1 f2 hyes2 hno2;have p1:=kept hbw2 hfb f1;have p2:=kept hbw2 hfb f2;clear fel f1 f2 g1 g3 k1 k2;obtain ⟨tb,htb⟩:∃ tb,Hid (Hier.ty l.length t=tb):=⟨_,rfl⟩
      cases tb
      ·go_wp2_with (go_at_call 98;refine (rtype _ _ _ t _).mono ?_;rw [htb.out];rintro e w1 ⟨rfl,hb1⟩)
       go_ret;exact ⟨ret_bool (hno2.out htb.out).symm,hbw2.trans (hb1.mono (by omega))⟩
      ·go_wp2_with (go_at_call 98;refine (rtype _ _ _ t _).mono ?_;rw [htb.out];rintro e w1 ⟨rfl,hb1⟩)
       go_roundw
       case rel=>exact ⟨m+1,by omega,by go_num,hbw2.trans (hb1.mono (by omega)),hyes2.out htb.out⟩
       case measure=>simp [intOf];omega
     ·obtain rfl:m=fl.length:=by omega
      have hnext:=Lib.hid (hyes.out (cls_true (c:=⟨c,fl⟩) hsup.out hfl (fun j hj=>hall2.out j hj hj)));clear g1 g3 k1 k2 fel
      go_wp2
      go_roundw
      case rel=>exact ⟨k+1,by omega,by go_num,hbw2,hnext.out⟩
      case measure=>simp [intOf];omega
  ·have e1:Hid (Hier.may l=true):=(Hier.may_iff l).2 ⟨by omega,fun j h=>hall.out j h (by omega)⟩
   go_wp2
   all_goals go_ret
   all_goals exact ⟨ret_bool e1.out.symm,hbw⟩
theorem refN_step {l:List Cls}(hw:Hier.Wf l) (c d:Int) (hd:0≤d) (h:d < c) (hc:c < l.length):Hier.is l c d=Hier.is l (Hier.sup l c) d:=by
 rw [Hier.is_in hw ⟨by omega,hc⟩,show decide (d=c)=false from decide_eq_false (by omega),Bool.false_or]
theorem refN_stop {l:List Cls}(hw:Hier.Wf l) (c d:Int) (hd:0≤d) (h:c≤d) (hc:c < l.length):Hier.is l c d=(c==d):=by
 by_cases h0:0≤c
 ·rw [Hier.is_in hw ⟨h0,hc⟩]
  by_cases e:d=c
  ·subst e;simp
  ·rw [show decide (d=c)=false from decide_eq_false e,Bool.false_or,show (c==d)=false by simp;omega]
   cases hi:Hier.is l (Hier.sup l c) d with
   | false=>rfl
   | true =>
    have:=Hier.is_le' hw hi
    have:=hw c.toNat (by omega)
    unfold Hier.sup at *;omega
 ·rw [Hier.is_out (by omega),show (c==d)=false by simp;omega]
set_option maxRecDepth 100000 in
theorem rbelow (v:Value) (l:List Cls) (c d:Int) (w:World) (h:Cs w v l) (hw:Hier.Wf l):Calls Try.prog 154 #[v,.int .i64 c,.int .i64 d] w fun e w'=>e=.returned (.bool (Hier.is l c d))∧w=w':=by
 obtain ⟨a,cap,rfl,hlc,hcc,hel⟩:=h
 by_cases q:c < 0∨d < 0∨(l.length:Int)≤c∨(l.length:Int)≤d
 ·have e1:Hid (Hier.is l c d=false):=by
   show _=_
   rw [← Hier.refBelow_eq hw,Hier.refBelow,if_pos q]
  clear hel
  go_enter Try.func154,Try.ntmps154
  go_wp2
  all_goals first | (exfalso;omega) | skip
  all_goals go_ret
  all_goals exact ⟨ret_bool e1.out.symm,rfl⟩
 have q1:¬ c < 0:=by omega
 have q2:¬ d < 0:=by omega
 have q3:¬ (l.length:Int)≤c:=by omega
 have q4:¬ (l.length:Int)≤d:=by omega
 clear q
 go_enter Try.func154,Try.ntmps154
 go_wp2
 go_loop [1] (fun x=>∃ y:Int,x=.int .i64 y∧-1≤y∧y < l.length∧Hid (Hier.is l c d=Hier.is l y d)) (fun x=>(intOf x+1).toNat)
 case atStart=>exact ⟨c,rfl,by omega,by omega,rfl⟩
 case round =>
  obtain ⟨y,rfl,hy1,hy2,hy3⟩:=hrel
  by_cases hlt:d < y
  ·obtain ⟨n,rfl⟩:=Int.eq_ofNat_of_zero_le (show 0≤y by omega)
   have hn:n < l.length:=by omega
   obtain ⟨b,o,rfl,hb,he⟩:=hel n hn;have hs:=hw n hn;have hst:=Lib.hid (hy3.out.trans (refN_step hw n d (by omega) hlt hy2))
   have hsup:Hid (Hier.sup l (n:Int)=(l[n]).sup):=by
    show _=_
    rw [Hier.sup,Int.toNat_natCast,Hier.at_eq hn]
   rw [Hier.at_eq hn] at hs;rw [hsup.out] at hst;obtain ⟨x,hx⟩:=at_of hn;rw [hx.out] at he hs hst;obtain ⟨g1,_⟩:=he;clear hel
   go_wp2
   go_round
   case rel=>exact ⟨_,rfl,by omega,by omega,hst⟩
   case measure=>simp [intOf];omega
  ·have hst:=Lib.hid (hy3.out.trans (refN_stop hw y d (by omega) (by omega) hy2))
   clear hel
   go_wp2
   go_ret;exact ⟨ret_bool hst.out.symm,rfl⟩
end HierW
end Go.Proofs.Ytncmhenfgbcihab
