/- Parts of the proof: Num, Rd, RdO, Mem, Hier, Form, Run, RunI, Rform, RunS, Vl, HierW, Up. -/
import Derived.WalkKit
import Derived.Test.YtncmhenfgbcihacRows
import Derived.ProofKit
import Derived.OpenShut
import Derived.Carry
import Derived.Deep.Draws
import Derived.WalkLawsBesides
import Derived.WalkSpells
import Derived.Deep.AppendLies
import Derived.Lib.Hide
import Derived.RangeFuncNested
import Derived.RangeFuncBound
import Derived.RangeFuncCalls
import Derived.RangeFuncLeaves
import Derived.RangeFuncFrom
import Derived.Shelf.Abstract
import Derived.OwnWalkIn
import Derived.TacticsInMore
import Derived.LoopNIn
import Derived.LoopIn
set_option linter.unusedSimpArgs false
set_option linter.unusedVariables false
set_option maxHeartbeats 8000000
namespace Go.Proofs.Ytncmhenfgbcihac
open Go.RowKit
namespace Num
def Ok (n:Int):Prop:=-9223372036854775808≤n∧n≤9223372036854775807
theorem Ok.of_wf {n:Int}(h:(Lit.int .i64 n).wf=true):Ok n:=by
 simp [Lit.wf,IntKind.min,IntKind.max,IntKind.signed,IntKind.bits] at h;unfold Ok;omega
theorem wrap64_ok (n:Int):Ok (wrap64 n):=by unfold Ok wrap64;omega
theorem wrap64_id {n:Int}(h:Ok n):wrap64 n=n:=by unfold Ok at h;unfold wrap64;omega
theorem wrap32_ok (n:Int):Ok (wrap32 n):=by unfold Ok wrap32;omega
theorem bits_ok (op:BinOp) (a b:Int):Ok (bits op .i64 a b):=Ok.of_wf (by
 unfold bits;split <;> exact (by simp [Lit.wf,IntKind.wrap,IntKind.min,IntKind.max,IntKind.signed,IntKind.bits];try split <;> omega))
def long (op a b:Int):Int × Bool :=
 if op=1 then (wrap64 (a+b),true)
 else if op=2 then (wrap64 (a - b),true)
 else if op=3 then (wrap64 (a*b),true)
 else if op=4 then (if b=0 then (0,false) else if b = -1 then (wrap64 (-a),true) else (a.tdiv b,true))
 else if op=5 then (if b=0 then (0,false) else if b = -1 then (0,true) else (a.tmod b,true))
 else if op=6 then (bits .and .i64 a b,true)
 else if op=7 then (bits .or .i64 a b,true)
 else if op=8 then (bits .xor .i64 a b,true)
 else (0,false)
def int (op a b:Int):Int × Bool:=(wrap32 (long op (wrap32 a) (wrap32 b)).1,(long op (wrap32 a) (wrap32 b)).2)
def cmp (a b:Int):Int:=if a < b then -1 else if b < a then 1 else 0
def holds (c a:Int):Bool :=
 if c=1 then decide (a=0) else if c=2 then decide (a < 0) else if c=3 then decide (a≠0) else if c=4 then decide (0 < a) else false
theorem tdiv_ok {a b:Int}(ha:Ok a) (h1:b≠-1):Ok (a.tdiv b):=by
 unfold Ok at *
 have h:=Int.natAbs_tdiv_le_natAbs a b
 by_cases e:a = -9223372036854775808
 ·by_cases h0:b=0
  ·subst h0;simp
  by_cases e1:b=1
  ·subst e1;simp;omega
  ·have h2:2≤b.natAbs:=by omega
   have:(a.tdiv b).natAbs=a.natAbs / b.natAbs:=Int.natAbs_tdiv a b
   have h3:a.natAbs / b.natAbs≤a.natAbs / 2:=Nat.div_le_div_left h2 (by omega)
   omega
 ·omega
theorem tmod_ok {a b:Int}(ha:Ok a):Ok (a.tmod b):=by
 unfold Ok at *
 have h:=Int.natAbs_tmod a b
 have h2:=Nat.mod_le a.natAbs b.natAbs
 have h3:0≤a→0≤a.tmod b:=fun h=>Int.tmod_nonneg b h
 by_cases h0:0≤a
 ·have:=h3 h0;omega
 ·have:0≤(-a).tmod b:=Int.tmod_nonneg b (by omega)
  rw [Int.neg_tmod] at this
  omega
theorem long_ok (op a b:Int) (ha:Ok a):Ok (long op a b).1:=by
 unfold long
 repeat' split
 all_goals dsimp only
 all_goals first | with_reducible exact wrap64_ok _ | with_reducible exact bits_ok _ _ _ | with_reducible exact tdiv_ok ha ‹_› | with_reducible exact tmod_ok ha | exact ⟨by omega,by omega⟩
theorem wrap_i64 (n:Int):IntKind.i64.wrap n=wrap64 n:=by
 rw [IntKind.wrap_i64];unfold wrap64;omega
end Num
open Go.ChangeShapes Go.WideShapes Go.ChangeAt Go.RowKit
namespace D
structure Ty where
 kind:Int
 cls:Int
structure Cls where
 sup:Int
 fields:List Ty
structure Hd where
 lo:Int
 hi:Int
 go:Int
 cls:Int
structure Ins where
 op:Int
 a:Int
 b:Int
 c:Int
 n:Int
 args:List Int
structure Me where
 params:List Ty
 ret:Ty
 stack:Int
 locals:Int
 regs:Int
 code:List Ins
 handlers:List Hd
structure Fi where
 classes:List Cls
 methods:List Me
end D
namespace Rd
open Num
def Sl {α:Type}(size:Nat) (E:World→Nat→Nat→Nat→α→Prop) (w:World) (B:Nat) (v:Value) (l:List α):Prop :=
 ∃ (a:Option Addr) (cap:Nat),v=.slice a l.length cap∧l.length≤cap∧cap≤9223372036854775807 ∧
  ∀ i (h:i < l.length),∃ b o,a=some ⟨b,o,none⟩∧b < B∧E w B b (o+i*size) l[i]
def EInt (w:World) (_B b o:Nat) (n:Int):Prop:=w.cell? ⟨b,o,none⟩=some (.int .i64 n)∧Ok n
def ETy (w:World) (_B b o:Nat) (t:D.Ty):Prop :=
 w.cell? ⟨b,o,none⟩=some (.int .i64 t.kind)∧w.cell? ⟨b,o+1,none⟩=some (.int .i64 t.cls)∧Ok t.kind∧Ok t.cls
def ECls (w:World) (B b o:Nat) (c:D.Cls):Prop :=
 w.cell? ⟨b,o,none⟩=some (.int .i64 c.sup)∧Ok c.sup∧∃ v,w.cell? ⟨b,o+1,none⟩=some v∧Sl 2 ETy w B v c.fields
def EHd (w:World) (_B b o:Nat) (h:D.Hd):Prop :=
 w.cell? ⟨b,o,none⟩=some (.int .i64 h.lo)∧w.cell? ⟨b,o+1,none⟩=some (.int .i64 h.hi)∧w.cell? ⟨b,o+2,none⟩=some (.int .i64 h.go)∧w.cell? ⟨b,o+3,none⟩=some (.int .i64 h.cls) ∧
  Ok h.lo∧Ok h.hi∧Ok h.go∧Ok h.cls
def EIns (w:World) (B b o:Nat) (i:D.Ins):Prop :=
 w.cell? ⟨b,o,none⟩=some (.int .i64 i.op)∧w.cell? ⟨b,o+1,none⟩=some (.int .i64 i.a)∧w.cell? ⟨b,o+2,none⟩=some (.int .i64 i.b)∧w.cell? ⟨b,o+3,none⟩=some (.int .i64 i.c)∧w.cell? ⟨b,o+4,none⟩=some (.int .i64 i.n) ∧
  (Ok i.op∧Ok i.a∧Ok i.b∧Ok i.c∧Ok i.n)∧∃ v,w.cell? ⟨b,o+5,none⟩=some v∧Sl 1 EInt w B v i.args
def EMe (w:World) (B b o:Nat) (m:D.Me):Prop :=
 ∃ vp vc vh,w.cell? ⟨b,o,none⟩=some vp∧w.cell? ⟨b,o+1,none⟩=some (.int .i64 m.ret.kind)∧w.cell? ⟨b,o+2,none⟩=some (.int .i64 m.ret.cls) ∧
  w.cell? ⟨b,o+3,none⟩=some (.int .i64 m.stack)∧w.cell? ⟨b,o+4,none⟩=some (.int .i64 m.locals)∧w.cell? ⟨b,o+5,none⟩=some (.int .i64 m.regs) ∧
  w.cell? ⟨b,o+6,none⟩=some vc∧w.cell? ⟨b,o+7,none⟩=some vh ∧
  (Ok m.ret.kind∧Ok m.ret.cls∧Ok m.stack∧Ok m.locals∧Ok m.regs)∧Sl 2 ETy w B vp m.params∧Sl 6 EIns w B vc m.code∧Sl 4 EHd w B vh m.handlers
def VMe (w:World) (B:Nat) (v:Value) (m:D.Me):Prop :=
 ∃ vp vc vh,v=.agg #[vp,.int .i64 m.ret.kind,.int .i64 m.ret.cls,.int .i64 m.stack,.int .i64 m.locals,.int .i64 m.regs,vc,vh] ∧
  (Ok m.ret.kind∧Ok m.ret.cls∧Ok m.stack∧Ok m.locals∧Ok m.regs)∧Sl 2 ETy w B vp m.params∧Sl 6 EIns w B vc m.code∧Sl 4 EHd w B vh m.handlers
def VIns (w:World) (B:Nat) (v:Value) (i:D.Ins):Prop :=
 ∃ va,v=.agg #[.int .i64 i.op,.int .i64 i.a,.int .i64 i.b,.int .i64 i.c,.int .i64 i.n,va]∧(Ok i.op∧Ok i.a∧Ok i.b∧Ok i.c∧Ok i.n)∧Sl 1 EInt w B va i.args
def VFi (w:World) (B:Nat) (v:Value) (f:D.Fi):Prop :=
 ∃ vc vm,v=.agg #[vc,vm]∧Sl 2 ECls w B vc f.classes∧Sl 8 EMe w B vm f.methods
def Mono {α:Type}(E:World→Nat→Nat→Nat→α→Prop):Prop :=
 ∀ w w' B B' b o x,Below B w w'→B≤B'→b < B→E w B b o x→E w' B' b o x
theorem Sl.mono {α:Type}{size:Nat}{E:World→Nat→Nat→Nat→α→Prop}(hE:Mono E){w w':World}{B B':Nat}{v:Value}{l:List α}(h:Sl size E w B v l) (hb:Below B w w') (hB:B≤B'):Sl size E w' B' v l:=by
 obtain ⟨a,cap,hv,hl,hc,h⟩:=h
 refine ⟨a,cap,hv,hl,hc,fun i hi=>?_⟩
 obtain ⟨b,o,ha,hlt,he⟩:=h i hi
 exact ⟨b,o,ha,Nat.lt_of_lt_of_le hlt hB,hE _ _ _ _ _ _ _ hb hB hlt he⟩
theorem mInt:Mono EInt:=fun w w' B B' b o x hb _ hlt h=>by
 unfold EInt at *;rw [hb.cell (p:=⟨b,o,none⟩) hlt];exact h
theorem mTy:Mono ETy:=fun w w' B B' b o x hb _ hlt h=>by
 unfold ETy at *;rw [hb.cell (p:=⟨b,o,none⟩) hlt,hb.cell (p:=⟨b,o+1,none⟩) hlt];exact h
theorem mCls:Mono ECls:=fun w w' B B' b o x hb hB hlt h=>by
 unfold ECls at *;rw [hb.cell (p:=⟨b,o,none⟩) hlt,hb.cell (p:=⟨b,o+1,none⟩) hlt]
 obtain ⟨h1,h2,v,h3,h4⟩:=h
 exact ⟨h1,h2,v,h3,h4.mono mTy hb hB⟩
theorem mHd:Mono EHd:=fun w w' B B' b o x hb _ hlt h=>by
 unfold EHd at *;rw [hb.cell (p:=⟨b,o,none⟩) hlt,hb.cell (p:=⟨b,o+1,none⟩) hlt,hb.cell (p:=⟨b,o+2,none⟩) hlt,hb.cell (p:=⟨b,o+3,none⟩) hlt];exact h
theorem mIns:Mono EIns:=fun w w' B B' b o x hb hB hlt h=>by
 unfold EIns at *;rw [hb.cell (p:=⟨b,o,none⟩) hlt,hb.cell (p:=⟨b,o+1,none⟩) hlt,hb.cell (p:=⟨b,o+2,none⟩) hlt,hb.cell (p:=⟨b,o+3,none⟩) hlt,hb.cell (p:=⟨b,o+4,none⟩) hlt,hb.cell (p:=⟨b,o+5,none⟩) hlt]
 obtain ⟨h1,h2,h3,h4,h5,h6,v,h7,h8⟩:=h
 exact ⟨h1,h2,h3,h4,h5,h6,v,h7,h8.mono mInt hb hB⟩
theorem mMe:Mono EMe:=fun w w' B B' b o x hb hB hlt h=>by
 unfold EMe at *
 rw [hb.cell (p:=⟨b,o,none⟩) hlt,hb.cell (p:=⟨b,o+1,none⟩) hlt,hb.cell (p:=⟨b,o+2,none⟩) hlt,hb.cell (p:=⟨b,o+3,none⟩) hlt,hb.cell (p:=⟨b,o+4,none⟩) hlt,hb.cell (p:=⟨b,o+5,none⟩) hlt,hb.cell (p:=⟨b,o+6,none⟩) hlt,hb.cell (p:=⟨b,o+7,none⟩) hlt]
 obtain ⟨vp,vc,vh,h1,h2,h3,h4,h5,h6,h7,h8,h9,h10,h11,h12⟩:=h
 exact ⟨vp,vc,vh,h1,h2,h3,h4,h5,h6,h7,h8,h9,h10.mono mTy hb hB,h11.mono mIns hb hB,h12.mono mHd hb hB⟩
theorem VMe.mono {w w':World}{B B':Nat}{v:Value}{m:D.Me}(h:VMe w B v m) (hb:Below B w w') (hB:B≤B'):VMe w' B' v m:=by
 obtain ⟨vp,vc,vh,h1,h2,h3,h4,h5⟩:=h
 exact ⟨vp,vc,vh,h1,h2,h3.mono mTy hb hB,h4.mono mIns hb hB,h5.mono mHd hb hB⟩
theorem VIns.mono {w w':World}{B B':Nat}{v:Value}{m:D.Ins}(h:VIns w B v m) (hb:Below B w w') (hB:B≤B'):VIns w' B' v m:=by
 obtain ⟨va,h1,h2,h3⟩:=h
 exact ⟨va,h1,h2,h3.mono mInt hb hB⟩
theorem VFi.mono {w w':World}{B B':Nat}{v:Value}{f:D.Fi}(h:VFi w B v f) (hb:Below B w w') (hB:B≤B'):VFi w' B' v f:=by
 obtain ⟨vc,vm,h1,h2,h3⟩:=h
 exact ⟨vc,vm,h1,h2.mono mCls hb hB,h3.mono mMe hb hB⟩
theorem below_drewN {B:Nat}{a w:World}(h:Below B a w) (n:Nat):Below B a (w.drewN n):=⟨h.os,h.tape,h.output,h.size,h.block⟩
theorem byB {p:Prop}(h:p:=by repeat' (first | with_reducible exact Below.refl _ _ | with_reducible assumption | exact Nat.le_refl _ | with_reducible refine Go.Proofs.Ytncmhenfgbcihac.Rd.below_drewN ?_ _ | with_reducible refine Below.alloc ?_ ?_ _ | with_reducible refine Below.setCell ?_ ?_ _ | with_reducible refine Below.drew ?_ | omega | (simp;omega) | (simp;done))):p:=h
theorem byL {p:Prop}(h:p:=by first | omega | (simp;omega) | (simp;done)):p:=h
section
variable {H:Type}{enc:TypeId × Value→H}{w:World}{sp:Nat→Bool}{held:Bool}
theorem list_of {α:Type}(n:Nat) (Q:Nat→α→Prop) (h:∀ i,i < n→∃ x,Q i x):∃ l:List α,l.length=n∧∀ i (hi:i < l.length),Q i l[i]:=by
 induction n with
 | zero=>exact ⟨[],rfl,fun i hi=>absurd hi (by simp)⟩
 | succ n ih =>
  obtain ⟨l,hl,hq⟩:=ih (fun i hi=>h i (by omega))
  obtain ⟨x,hx⟩:=h n (by omega)
  refine ⟨l++[x],by simp [hl],fun i hi=>?_⟩
  by_cases hlt:i < l.length
  ·rw [List.getElem_append_left hlt];exact hq i hlt
  ·have:i=l.length:=by simp at hi;omega
   subst this
   simp;rw [hl];exact hx
theorem Sl.of_trod {P:Program}{α:Type}{size:Nat}{E:World→Nat→Nat→Nat→α→Prop}{t e:TypeId}(ht:P.underlying t=some (.slice e)) (hs:P.cellsOf e=size) (h0:0 < size)
  (hE:∀ fuel b o cs x,b < w.heap.size→(∀ i,i < size→w.cell? ⟨b,o+i,none⟩=cs[i]?)→cs.length=size→DataW.trod enc P w 0 sp held fuel e cs=some x→∃ y,E w w.heap.size b o y)
  {fuel:Nat}{cs:List Value}{x:DataW H × List MemPlace}(h:DataW.trod enc P w 0 sp held fuel t cs=some x):∃ v l,cs=[v]∧Sl size E w w.heap.size v l:=by
 rcases DataW.trod_slice ht h with ⟨rfl,_⟩ | ⟨a,len,cap,elems,rest,n,_,rfl,_,hb,hl,hc,hlen,hel,_,_⟩
 ·exact ⟨_,[],rfl,none,0,rfl,by simp,by omega,fun i hi=>absurd hi (by simp)⟩
 ·subst hs
  have key:∀ i,i < len→∃ y,(∃ b o,a=⟨b,o,none⟩∧b < w.heap.size∧E w w.heap.size b (o+i*P.cellsOf e) y):=by
   intro i hi
   have h1:=hel i hi
   rw [List.getElem?_eq_getElem (by omega)] at h1
   obtain ⟨cs,hc1,hc2⟩:=Option.bind_eq_some_iff.1 h1
   have hblk:=World.cells?_block hc1 h0
   obtain ⟨_,hcl,hcc⟩:=World.cells?_some hc1
   have hspot:a.spot=none:=by
    cases hsp:a.spot with
    | none=>rfl
    | some s =>
     exfalso
     have hel0:=hel 0 (by omega)
     rw [List.getElem?_eq_getElem (by omega)] at hel0
     obtain ⟨cs0,hd1,_⟩:=Option.bind_eq_some_iff.1 hel0
     obtain ⟨_,hd2,hd3⟩:=World.cells?_some hd1
     have hd4:=hd3 0 h0
     rw [List.getElem?_eq_getElem (by omega)] at hd4
     simp [Addr.add,World.cell?,hsp] at hd4
     split at hd4 <;> simp_all
   obtain ⟨b,o,s⟩:=a
   simp only at hspot
   subst hspot
   have hbb:b < w.heap.size:=by
    simp only [Addr.add] at hblk;split at hblk <;> exact hblk
   obtain ⟨y,hy⟩:=hE n b (o+i*P.cellsOf e) cs _ hbb (fun j hj=>by
    have:=hcc j hj
    rw [← this]
    simp only [Addr.add]
    by_cases q1:i*P.cellsOf e=0 <;> by_cases q2:j=0 <;> simp [q1,q2]) hcl hc2
   exact ⟨y,b,o,rfl,hbb,hy⟩
  obtain ⟨l,hl1,hl2⟩:=list_of len _ key
  subst hl1
  refine ⟨_,l,rfl,some a,cap,rfl,hl,(by have:maxLen=9223372036854775807:=rfl;omega),fun i hi=>?_⟩
  obtain ⟨b,o,ha,hbb,hy⟩:=hl2 i hi
  exact ⟨b,o,by rw [ha],hbb,hy⟩
end
end Rd
open Go.ChangeShapes Go.WideShapes Go.ChangeAt Go.RowKit
namespace Rd
open Num
section
variable {H:Type}{enc:TypeId × Value→H}{w:World}{sp:Nat→Bool}{held:Bool}
theorem len1 {cs:List Value}(h:cs.length=1):∃ c0,cs=[c0]:=by
 match cs,h with
 | [c0],_=>exact ⟨c0,rfl⟩
theorem len2 {cs:List Value}(h:cs.length=2):∃ c0 c1,cs=[c0,c1]:=by
 match cs,h with
 | [c0,c1],_=>exact ⟨c0,c1,rfl⟩
theorem len4 {cs:List Value}(h:cs.length=4):∃ c0 c1 c2 c3,cs=[c0,c1,c2,c3]:=by
 match cs,h with
 | [c0,c1,c2,c3],_=>exact ⟨c0,c1,c2,c3,rfl⟩
theorem len6 {cs:List Value}(h:cs.length=6):∃ c0 c1 c2 c3 c4 c5,cs=[c0,c1,c2,c3,c4,c5]:=by
 match cs,h with
 | [c0,c1,c2,c3,c4,c5],_=>exact ⟨c0,c1,c2,c3,c4,c5,rfl⟩
theorem len8 {cs:List Value}(h:cs.length=8):∃ c0 c1 c2 c3 c4 c5 c6 c7,cs=[c0,c1,c2,c3,c4,c5,c6,c7]:=by
 match cs,h with
 | [c0,c1,c2,c3,c4,c5,c6,c7],_=>exact ⟨c0,c1,c2,c3,c4,c5,c6,c7,rfl⟩
theorem cells_int:Try.prog.cellsOf 3=1:=by kernel_rfl
theorem cells_int64:Try.prog.cellsOf 2=1:=by kernel_rfl
theorem cells_ty:Try.prog.cellsOf 52=2:=by kernel_rfl
theorem cells_tys:Try.prog.cellsOf 50=1:=by kernel_rfl
theorem cells_ints:Try.prog.cellsOf 77=1:=by kernel_rfl
theorem cells_cls:Try.prog.cellsOf 104=2:=by kernel_rfl
theorem cells_clss:Try.prog.cellsOf 22=1:=by kernel_rfl
theorem cells_hd:Try.prog.cellsOf 121=4:=by kernel_rfl
theorem cells_hds:Try.prog.cellsOf 54=1:=by kernel_rfl
theorem cells_ins:Try.prog.cellsOf 79=6:=by kernel_rfl
theorem cells_inss:Try.prog.cellsOf 53=1:=by kernel_rfl
theorem cells_me:Try.prog.cellsOf 56=8:=by kernel_rfl
theorem cells_mes:Try.prog.cellsOf 23=1:=by kernel_rfl
theorem cells_fi:Try.prog.cellsOf 25=2:=by kernel_rfl
theorem at_struct {t:TypeId}{fs:Array Field}(ht:Try.prog.underlying t=some (.struct fs)){fuel:Nat}{cs:List Value}{x:DataW H × List MemPlace}(h:DataW.trod enc Try.prog w 0 sp held fuel t cs=some x) :
  cs.length=Try.prog.cellsOf t∧∃ n,∀ (i:Nat) (f:Field),fs[i]? = some f→∃ y,DataW.trod enc Try.prog w 0 sp held n f.type ((cs.drop f.offset).take (Try.prog.cellsOf f.type))=some y:=by
 obtain ⟨xs,n,_,_,hl,hx,hf⟩:=DataW.trod_struct ht h
 refine ⟨hl,n,fun i f hi=>?_⟩
 have:=hf i f hi
 have hlt:i < fs.size:=by
  rw [Array.getElem?_eq_some_iff] at hi;exact hi.1
 rw [List.getElem?_eq_getElem (by omega)] at this
 exact ⟨_,this⟩
theorem fld {fs:Array Field}{n:Nat}{cs:List Value}(hf:∀ (i:Nat) (f:Field),fs[i]? = some f→∃ y,DataW.trod enc Try.prog w 0 sp held n f.type ((cs.drop f.offset).take (Try.prog.cellsOf f.type))=some y)
  (i off t k:Nat) (hk:Try.prog.cellsOf t=k) (h:∃ f,fs[i]? = some f∧f.type=t∧f.offset=off):∃ y,DataW.trod enc Try.prog w 0 sp held n t ((cs.drop off).take k)=some y:=by
 obtain ⟨f,h1,h2,h3⟩:=h
 have:=hf i f h1
 rw [h2,h3,hk] at this
 exact this
theorem int_of {n:Nat}{v:Value}{y:DataW H × List MemPlace}(h:DataW.trod enc Try.prog w 0 sp held n 3 [v]=some y):∃ k,v=.int .i64 k∧Ok k:=by
 obtain ⟨k,hk,_,hw⟩:=DataW.trod_int Try.underlying3 h
 exact ⟨k,by simpa using hk,Ok.of_wf hw⟩
theorem int64_of {n:Nat}{v:Value}{y:DataW H × List MemPlace}(h:DataW.trod enc Try.prog w 0 sp held n 2 [v]=some y):∃ k,v=.int .i64 k∧Ok k:=by
 obtain ⟨k,hk,_,hw⟩:=DataW.trod_int Try.underlying2 h
 exact ⟨k,by simpa using hk,Ok.of_wf hw⟩
theorem ty_of {fuel:Nat}{cs:List Value}{x:DataW H × List MemPlace}(h:DataW.trod enc Try.prog w 0 sp held fuel 52 cs=some x):∃ t:D.Ty,cs=[.int .i64 t.kind,.int .i64 t.cls]∧Ok t.kind∧Ok t.cls:=by
 obtain ⟨hl,n,hf⟩:=at_struct Try.underlying52 h
 rw [cells_ty] at hl
 obtain ⟨c0,c1,rfl⟩:=len2 hl
 obtain ⟨y0,h0⟩:=fld hf 0 0 3 _ cells_int ⟨_,rfl,rfl,rfl⟩
 obtain ⟨y1,h1⟩:=fld hf 1 1 3 _ cells_int ⟨_,rfl,rfl,rfl⟩
 simp only [List.drop_zero,List.take_succ_cons,List.take_zero,List.drop_succ_cons] at h0 h1
 obtain ⟨k,rfl,hk⟩:=int_of h0
 obtain ⟨c,rfl,hc⟩:=int_of h1
 exact ⟨⟨k,c⟩,rfl,hk,hc⟩
theorem tys_of {fuel:Nat}{cs:List Value}{x:DataW H × List MemPlace}(h:DataW.trod enc Try.prog w 0 sp held fuel 50 cs=some x):∃ v l,cs=[v]∧Sl 2 ETy w w.heap.size v l :=
 Sl.of_trod Try.underlying50 cells_ty (by omega) (fun fuel b o cs x hb hc hl h=>by
  obtain ⟨t,rfl,h1,h2⟩:=ty_of h
  exact ⟨t,hc 0 (by omega),hc 1 (by omega),h1,h2⟩) h
theorem ints_of {fuel:Nat}{cs:List Value}{x:DataW H × List MemPlace}(h:DataW.trod enc Try.prog w 0 sp held fuel 77 cs=some x):∃ v l,cs=[v]∧Sl 1 EInt w w.heap.size v l :=
 Sl.of_trod Try.underlying77 cells_int (by omega) (fun fuel b o cs x hb hc hl h=>by
  obtain ⟨c0,rfl⟩:=len1 hl
  obtain ⟨k,rfl,hk⟩:=int_of h
  exact ⟨k,hc 0 (by omega),hk⟩) h
theorem cls_of {fuel:Nat}{cs:List Value}{x:DataW H × List MemPlace}(h:DataW.trod enc Try.prog w 0 sp held fuel 104 cs=some x):∃ (c:D.Cls) (v:Value),cs=[.int .i64 c.sup,v]∧Ok c.sup∧Sl 2 ETy w w.heap.size v c.fields:=by
 obtain ⟨hl,n,hf⟩:=at_struct Try.underlying104 h
 rw [cells_cls] at hl
 obtain ⟨c0,c1,rfl⟩:=len2 hl
 obtain ⟨y0,h0⟩:=fld hf 0 0 3 _ cells_int ⟨_,rfl,rfl,rfl⟩
 obtain ⟨y1,h1⟩:=fld hf 1 1 50 _ cells_tys ⟨_,rfl,rfl,rfl⟩
 simp only [List.drop_zero,List.take_succ_cons,List.take_zero,List.drop_succ_cons] at h0 h1
 obtain ⟨k,rfl,hk⟩:=int_of h0
 obtain ⟨v,l,hv,hs⟩:=tys_of h1
 simp only [List.cons.injEq,and_true] at hv
 subst hv
 exact ⟨⟨k,l⟩,_,rfl,hk,hs⟩
theorem clss_of {fuel:Nat}{cs:List Value}{x:DataW H × List MemPlace}(h:DataW.trod enc Try.prog w 0 sp held fuel 22 cs=some x):∃ v l,cs=[v]∧Sl 2 ECls w w.heap.size v l :=
 Sl.of_trod Try.underlying22 cells_cls (by omega) (fun fuel b o cs x hb hc hl h=>by
  obtain ⟨c,v,rfl,h1,h2⟩:=cls_of h
  exact ⟨c,hc 0 (by omega),h1,v,hc 1 (by omega),h2⟩) h
theorem hd_of {fuel:Nat}{cs:List Value}{x:DataW H × List MemPlace}(h:DataW.trod enc Try.prog w 0 sp held fuel 121 cs=some x):∃ d:D.Hd,cs=[.int .i64 d.lo,.int .i64 d.hi,.int .i64 d.go,.int .i64 d.cls]∧Ok d.lo∧Ok d.hi∧Ok d.go∧Ok d.cls:=by
 obtain ⟨hl,n,hf⟩:=at_struct Try.underlying121 h
 rw [cells_hd] at hl
 obtain ⟨c0,c1,c2,c3,rfl⟩:=len4 hl
 obtain ⟨y0,h0⟩:=fld hf 0 0 3 _ cells_int ⟨_,rfl,rfl,rfl⟩
 obtain ⟨y1,h1⟩:=fld hf 1 1 3 _ cells_int ⟨_,rfl,rfl,rfl⟩
 obtain ⟨y2,h2⟩:=fld hf 2 2 3 _ cells_int ⟨_,rfl,rfl,rfl⟩
 obtain ⟨y3,h3⟩:=fld hf 3 3 3 _ cells_int ⟨_,rfl,rfl,rfl⟩
 simp only [List.drop_zero,List.take_succ_cons,List.take_zero,List.drop_succ_cons] at h0 h1 h2 h3
 obtain ⟨k0,rfl,q0⟩:=int_of h0
 obtain ⟨k1,rfl,q1⟩:=int_of h1
 obtain ⟨k2,rfl,q2⟩:=int_of h2
 obtain ⟨k3,rfl,q3⟩:=int_of h3
 exact ⟨⟨k0,k1,k2,k3⟩,rfl,q0,q1,q2,q3⟩
theorem hds_of {fuel:Nat}{cs:List Value}{x:DataW H × List MemPlace}(h:DataW.trod enc Try.prog w 0 sp held fuel 54 cs=some x):∃ v l,cs=[v]∧Sl 4 EHd w w.heap.size v l :=
 Sl.of_trod Try.underlying54 cells_hd (by omega) (fun fuel b o cs x hb hc hl h=>by
  obtain ⟨t,rfl,h1,h2,h3,h4⟩:=hd_of h
  exact ⟨t,hc 0 (by omega),hc 1 (by omega),hc 2 (by omega),hc 3 (by omega),h1,h2,h3,h4⟩) h
theorem ins_of {fuel:Nat}{cs:List Value}{x:DataW H × List MemPlace}(h:DataW.trod enc Try.prog w 0 sp held fuel 79 cs=some x):∃ (i:D.Ins) (v:Value),cs=[.int .i64 i.op,.int .i64 i.a,.int .i64 i.b,.int .i64 i.c,.int .i64 i.n,v]∧(Ok i.op∧Ok i.a∧Ok i.b∧Ok i.c∧Ok i.n)∧Sl 1 EInt w w.heap.size v i.args:=by
 obtain ⟨hl,n,hf⟩:=at_struct Try.underlying79 h
 rw [cells_ins] at hl
 obtain ⟨c0,c1,c2,c3,c4,c5,rfl⟩:=len6 hl
 obtain ⟨y0,h0⟩:=fld hf 0 0 3 _ cells_int ⟨_,rfl,rfl,rfl⟩
 obtain ⟨y1,h1⟩:=fld hf 1 1 3 _ cells_int ⟨_,rfl,rfl,rfl⟩
 obtain ⟨y2,h2⟩:=fld hf 2 2 3 _ cells_int ⟨_,rfl,rfl,rfl⟩
 obtain ⟨y3,h3⟩:=fld hf 3 3 3 _ cells_int ⟨_,rfl,rfl,rfl⟩
 obtain ⟨y4,h4⟩:=fld hf 4 4 2 _ cells_int64 ⟨_,rfl,rfl,rfl⟩
 obtain ⟨y5,h5⟩:=fld hf 5 5 77 _ cells_ints ⟨_,rfl,rfl,rfl⟩
 simp only [List.drop_zero,List.take_succ_cons,List.take_zero,List.drop_succ_cons] at h0 h1 h2 h3 h4 h5
 obtain ⟨k0,rfl,q0⟩:=int_of h0
 obtain ⟨k1,rfl,q1⟩:=int_of h1
 obtain ⟨k2,rfl,q2⟩:=int_of h2
 obtain ⟨k3,rfl,q3⟩:=int_of h3
 obtain ⟨k4,rfl,q4⟩:=int64_of h4
 obtain ⟨v,l,hv,hs⟩:=ints_of h5
 simp only [List.cons.injEq,and_true] at hv
 subst hv
 exact ⟨⟨k0,k1,k2,k3,k4,l⟩,_,rfl,⟨q0,q1,q2,q3,q4⟩,hs⟩
theorem inss_of {fuel:Nat}{cs:List Value}{x:DataW H × List MemPlace}(h:DataW.trod enc Try.prog w 0 sp held fuel 53 cs=some x):∃ v l,cs=[v]∧Sl 6 EIns w w.heap.size v l :=
 Sl.of_trod Try.underlying53 cells_ins (by omega) (fun fuel b o cs x hb hc hl h=>by
  obtain ⟨i,v,rfl,h1,h2⟩:=ins_of h
  exact ⟨i,hc 0 (by omega),hc 1 (by omega),hc 2 (by omega),hc 3 (by omega),hc 4 (by omega),h1,v,hc 5 (by omega),h2⟩) h
theorem me_of {fuel:Nat}{cs:List Value}{x:DataW H × List MemPlace}(h:DataW.trod enc Try.prog w 0 sp held fuel 56 cs=some x):∃ (m:D.Me) (vp vc vh:Value),cs=[vp,.int .i64 m.ret.kind,.int .i64 m.ret.cls,.int .i64 m.stack,.int .i64 m.locals,.int .i64 m.regs,vc,vh] ∧
  (Ok m.ret.kind∧Ok m.ret.cls∧Ok m.stack∧Ok m.locals∧Ok m.regs)∧Sl 2 ETy w w.heap.size vp m.params∧Sl 6 EIns w w.heap.size vc m.code∧Sl 4 EHd w w.heap.size vh m.handlers:=by
 obtain ⟨hl,n,hf⟩:=at_struct Try.underlying56 h
 rw [cells_me] at hl
 obtain ⟨c0,c1,c2,c3,c4,c5,c6,c7,rfl⟩:=len8 hl
 obtain ⟨y0,h0⟩:=fld hf 0 0 50 _ cells_tys ⟨_,rfl,rfl,rfl⟩
 obtain ⟨y1,h1⟩:=fld hf 1 1 52 _ cells_ty ⟨_,rfl,rfl,rfl⟩
 obtain ⟨y2,h2⟩:=fld hf 2 3 3 _ cells_int ⟨_,rfl,rfl,rfl⟩
 obtain ⟨y3,h3⟩:=fld hf 3 4 3 _ cells_int ⟨_,rfl,rfl,rfl⟩
 obtain ⟨y4,h4⟩:=fld hf 4 5 3 _ cells_int ⟨_,rfl,rfl,rfl⟩
 obtain ⟨y5,h5⟩:=fld hf 5 6 53 _ cells_inss ⟨_,rfl,rfl,rfl⟩
 obtain ⟨y6,h6⟩:=fld hf 6 7 54 _ cells_hds ⟨_,rfl,rfl,rfl⟩
 simp only [List.drop_zero,List.take_succ_cons,List.take_zero,List.drop_succ_cons] at h0 h1 h2 h3 h4 h5 h6
 obtain ⟨v0,l0,hv0,hs0⟩:=tys_of h0
 obtain ⟨t,ht,ht1,ht2⟩:=ty_of h1
 obtain ⟨k2,rfl,q2⟩:=int_of h2
 obtain ⟨k3,rfl,q3⟩:=int_of h3
 obtain ⟨k4,rfl,q4⟩:=int_of h4
 obtain ⟨v5,l5,hv5,hs5⟩:=inss_of h5
 obtain ⟨v6,l6,hv6,hs6⟩:=hds_of h6
 simp only [List.cons.injEq,and_true] at hv0 ht hv5 hv6
 obtain ⟨rfl,rfl⟩:=ht
 subst hv0 hv5 hv6
 exact ⟨⟨l0,t,k2,k3,k4,l5,l6⟩,_,_,_,rfl,⟨ht1,ht2,q2,q3,q4⟩,hs0,hs5,hs6⟩
theorem mes_of {fuel:Nat}{cs:List Value}{x:DataW H × List MemPlace}(h:DataW.trod enc Try.prog w 0 sp held fuel 23 cs=some x):∃ v l,cs=[v]∧Sl 8 EMe w w.heap.size v l :=
 Sl.of_trod Try.underlying23 cells_me (by omega) (fun fuel b o cs x hb hc hl h=>by
  obtain ⟨m,vp,vc,vh,rfl,h1,h2,h3,h4⟩:=me_of h
  exact ⟨m,vp,vc,vh,hc 0 (by omega),hc 1 (by omega),hc 2 (by omega),hc 3 (by omega),hc 4 (by omega),hc 5 (by omega),hc 6 (by omega),hc 7 (by omega),h1,h2,h3,h4⟩) h
theorem fi_of {fuel:Nat}{cs:List Value}{x:DataW H × List MemPlace}(h:DataW.trod enc Try.prog w 0 sp held fuel 25 cs=some x):∃ (f:D.Fi) (vc vm:Value),cs=[vc,vm]∧Sl 2 ECls w w.heap.size vc f.classes∧Sl 8 EMe w w.heap.size vm f.methods:=by
 obtain ⟨hl,n,hf⟩:=at_struct Try.underlying25 h
 rw [cells_fi] at hl
 obtain ⟨c0,c1,rfl⟩:=len2 hl
 obtain ⟨y0,h0⟩:=fld hf 0 0 22 _ cells_clss ⟨_,rfl,rfl,rfl⟩
 obtain ⟨y1,h1⟩:=fld hf 1 1 23 _ cells_mes ⟨_,rfl,rfl,rfl⟩
 simp only [List.drop_zero,List.take_succ_cons,List.take_zero,List.drop_succ_cons] at h0 h1
 obtain ⟨v0,l0,hv0,hs0⟩:=clss_of h0
 obtain ⟨v1,l1,hv1,hs1⟩:=mes_of h1
 simp only [List.cons.injEq,and_true] at hv0 hv1
 subst hv0 hv1
 exact ⟨⟨l0,l1⟩,_,_,rfl,hs0,hs1⟩
set_option maxRecDepth 100000 in
theorem open_file {r:Reach}{b0:Nat}{v:Value}{d:DataW H}{ps:List MemPlace}(hval:Value.okWide Try.prog w r b0 25 v) (hd:DataW.Trod enc Try.prog w 0 sp held 25 v d ps):∃ f,VFi w w.heap.size v f:=by
 obtain ⟨cs,rfl,_⟩:=okWide_struct Try.underlying25 hval
 obtain ⟨fuel,hf⟩:=hd
 obtain ⟨f,vc,vm,hv,hs,hm⟩:=fi_of hf
 simp only [Value.cells] at hv
 refine ⟨f,vc,vm,?_,hs,hm⟩
 congr 1
 exact Array.toList_inj.1 (by simpa using hv)
end
end Rd
namespace Mem
open Num Rd D
theorem cell_lt {w:World}{b o:Nat}{v:Value}(h:w.cell? ⟨b,o,none⟩=some v):b < w.heap.size:=World.block_lt_of_cell? w _ h
structure Kp (X:Nat→Prop) (w w':World):Prop where
 os:w'.os=w.os
 tape:w'.tape=w.tape
 output:w'.output=w.output
 size:w.heap.size≤w'.heap.size
 block:∀ k,k < w.heap.size→¬ X k→w'.heap[k]? = w.heap[k]?
namespace Kp
variable {X Y:Nat→Prop}{w w' w'':World}
theorem refl (X:Nat→Prop) (w:World):Kp X w w:=⟨rfl,rfl,rfl,Nat.le_refl _,fun _ _ _=>rfl⟩
theorem trans (h:Kp X w w') (k:Kp Y w' w'') (hY:∀ y,Y y→X y∨w.heap.size≤y):Kp X w w'' :=
 ⟨k.os.trans h.os,k.tape.trans h.tape,k.output.trans h.output,Nat.le_trans h.size k.size,fun i hi hn=>(k.block i (Nat.lt_of_lt_of_le hi h.size) (fun hy=>(hY i hy).elim hn (fun h=>by omega))).trans (h.block i hi hn)⟩
theorem of_below {B:Nat}(h:Below B w w') (hB:w.heap.size≤B):Kp X w w':=⟨h.os,h.tape,h.output,h.size,fun k hk _=>h.block k (by omega)⟩
theorem below (h:Kp X w w'){B:Nat}(h1:B≤w.heap.size) (h2:∀ x,X x→B≤x):Below B w w':=⟨h.os,h.tape,h.output,h.size,fun k hk=>h.block k (by omega) (fun hx=>by have:=h2 k hx;omega)⟩
theorem mono (h:Kp X w w') (hY:∀ x,X x→Y x):Kp Y w w':=⟨h.os,h.tape,h.output,h.size,fun k hk hn=>h.block k hk (fun hx=>hn (hY k hx))⟩
theorem alloc (h:Kp X w w') (o:Obj):Kp X w (w'.alloc o):=h.trans (Y:=fun _=>False) (of_below ((Below.refl _ _).alloc (Nat.le_refl _) o) (Nat.le_refl _)) (fun _ h=>h.elim)
theorem drew (h:Kp X w w'):Kp X w w'.drew:=⟨h.os,h.tape,h.output,h.size,h.block⟩
theorem drewN (h:Kp X w w') (n:Nat):Kp X w (w'.drewN n):=⟨h.os,h.tape,h.output,h.size,h.block⟩
theorem setCell (h:Kp X w w'){p:Addr}(hp:X p.block∨w.heap.size≤p.block) (u:Value):Kp X w (w'.setCell p u) :=
 ⟨h.os,h.tape,h.output,by simpa [World.setCell] using h.size,fun k hk hn=>(Below.heap_setCell _ _ _ _ (fun e=>by
  rcases hp with hp | hp
  ·rw [e] at hn;exact hn hp
  ·omega)).trans (h.block k hk hn)⟩
theorem cell (h:Kp X w w'){c o:Nat}{v:Value}(hc:w.cell? ⟨c,o,none⟩=some v) (h2:¬ X c):w'.cell? ⟨c,o,none⟩=some v :=
 (World.cell?_of_block (a:=⟨c,o,none⟩) (h.block c (cell_lt hc) h2)).trans hc
theorem frz (h:Kp X w w'){c o:Nat}{b:Bool}(hc:w.frozen? ⟨c,o,none⟩=b) (hl:c < w.heap.size) (h2:¬ X c):w'.frozen? ⟨c,o,none⟩=b :=
 (World.frozen?_of_block (a:=⟨c,o,none⟩) (h.block c hl h2)).trans hc
theorem of_grown {row:Option Nat}(h:w.grownBy w' row) (hr:∀ k,row=some k→X k):Kp X w w':=⟨h.os,h.tape,h.output,h.size,fun k hk hn=>h.block k hk (fun e=>hn (hr k e.symm))⟩
theorem sl (h:Kp X w w'){α:Type}{size:Nat}{E:World→Nat→Nat→Nat→α→Prop}(hE:Mono E){B:Nat}{v:Value}{l:List α}(hs:Sl size E w B v l) (hB:B≤w.heap.size) (hX:∀ x,X x→B≤x):Sl size E w' B v l:=hs.mono hE (h.below hB hX) (Nat.le_refl _)
end Kp
def Blk (w:World) (b:Nat) (vs:List Value):Prop:=∀ j (h:j < vs.length),w.cell? ⟨b,j,none⟩=some vs[j]∧w.frozen? ⟨b,j,none⟩=false
theorem Blk.next {w w':World}{b:Nat}{vs:List Value}(h:Blk w b vs){X:Nat→Prop}(hk:Kp X w w') (hX:¬ X b):Blk w' b vs:=fun j hj =>
 ⟨hk.cell (h j hj).1 hX,hk.frz (h j hj).2 (cell_lt (h j hj).1) hX⟩
theorem Blk.lt {w:World}{b:Nat}{v:Value}{vs:List Value}(h:Blk w b (v :: vs)):b < w.heap.size:=cell_lt (h 0 (by simp)).1
theorem Blk.far {w:World}{b:Nat}{vs:List Value}(h:Blk w b vs){b2 o2:Nat}(hne:b2≠b) (x:Value):Blk (w.setCell ⟨b2,o2,none⟩ x) b vs :=
 h.next (X:=fun k=>k=b2) (Kp.setCell (Kp.refl (fun k=>k=b2) w) (p:=⟨b2,o2,none⟩) (.inl rfl) x) (fun e=>hne e.symm)
theorem Blk.set {w:World}{b:Nat}{vs:List Value}(h:Blk w b vs) (k:Nat) (hk:k < vs.length) (x:Value):Blk (w.setCell ⟨b,k,none⟩ x) b (vs.set k x):=fun j hj=>by
 have hj':j < vs.length:=by simpa using hj
 obtain ⟨h1,h2⟩:=h j hj'
 obtain ⟨g1,g2⟩:=h k hk
 by_cases e:j=k
 ·subst e
  rw [List.getElem_set_self]
  exact ⟨by go_simp,by rw [World.frozen?_setCell];exact h2⟩
 ·have hne:¬ ((⟨b,k,none⟩:Addr)=⟨b,j,none⟩):=by intro h;injection h with _ h;omega
  rw [List.getElem_set_ne (by omega)]
  exact ⟨by rw [World.cell?_setCell_other _ _ _ _ hne];exact h1,by rw [World.frozen?_setCell];exact h2⟩
theorem Blk.alloc {w:World}{b:Nat}{vs:List Value}(h:Blk w b vs) (o:Obj):Blk (w.alloc o) b vs:=h.next (X:=fun _=>False) ((Kp.refl _ _).alloc o) (fun e=>e)
theorem Blk.drew {w:World}{b:Nat}{vs:List Value}(h:Blk w b vs):Blk w.drew b vs:=h.next (X:=fun _=>False) (Kp.refl _ _).drew (fun e=>e)
theorem Blk.made (w:World) (cs:List Value) (t:TypeId):Blk (w.alloc (.cells cs.toArray t)) w.heap.size cs:=fun j hj =>
 ⟨by rw [World.cell?_alloc_new];simp [hj],World.frozen?_alloc_new ..⟩
theorem row_keep {w w':World}{base:Nat}{T:TypeId}{size n:Nat}{v:Value}{xs:List Value}{X:Nat→Prop}(h:w.ownsRow base T size v n xs) (hk:Kp X w w') (hX:∀ g,v.ownBlock=some g→¬ X g):w'.ownsRow base T size v n xs:=by
 refine ⟨h.1,?_⟩
 rcases h.2 with hn | ⟨g,cap,cur,rfl,hbg,hg,rest⟩
 ·exact .inl hn
 ·exact .inr ⟨g,cap,cur,rfl,hbg,by rw [hk.block g (Array.getElem?_eq_some_iff.1 hg).1 (hX g rfl)];exact hg,rest⟩
theorem row_drew {w:World}{base:Nat}{T:TypeId}{size n:Nat}{v:Value}{xs:List Value}(h:w.ownsRow base T size v n xs):w.drew.ownsRow base T size v n xs:=row_keep (X:=fun _=>False) h (Kp.refl _ _).drew (fun _ _ h=>h)
theorem row_cell {w:World}{base:Nat}{T:TypeId}{size n g cap:Nat}{xs:List Value}(h:w.ownsRow base T size (.slice (some ⟨g,0,none⟩) n cap) n xs){j:Nat}{u:Value}(hj:xs[j]? = some u):w.cell? ⟨g,j,none⟩=some u:=by
 have:=World.ownsRow.cells h (g:=g) rfl j u hj
 have hadd:(⟨g,0,none⟩:Addr).add j=⟨g,j,none⟩:=by unfold Addr.add;split <;> simp_all
 rw [hadd] at this;exact this
theorem row_free {w:World}{base:Nat}{T:TypeId}{size n g cap j:Nat}{xs:List Value}(h:w.ownsRow base T size (.slice (some ⟨g,0,none⟩) n cap) n xs):w.frozen? ⟨g,j,none⟩=false:=by
 rcases h.2 with hn | ⟨g',cap',cur,hv,_,hg,_⟩
 ·exact absurd hn.1 (by simp)
 ·simp only [Value.slice.injEq,Option.some.injEq,Addr.mk.injEq] at hv
  obtain ⟨⟨rfl,_⟩,_⟩:=hv
  simp [World.frozen?,hg]
theorem row_form {w:World}{base:Nat}{T:TypeId}{size n:Nat}{v:Value}{xs:List Value}(h:w.ownsRow base T size v n xs) (hn:0 < n):∃ g cap,v=.slice (some ⟨g,0,none⟩) n cap∧n≤cap∧cap≤9223372036854775807∧base≤g∧g < w.heap.size:=by
 have hl:=World.ownsRow.lt h
 rcases h.2 with ⟨_,h0⟩ | ⟨g,cap,cur,rfl,hb,_,h1,h2,_⟩
 ·omega
 ·exact ⟨g,cap,rfl,h1,h2,hb,(hl g rfl).2⟩
theorem row_any {w:World}{base:Nat}{T:TypeId}{size n:Nat}{v:Value}{xs:List Value}(h:w.ownsRow base T size v n xs):∃ a cap,v=.slice a n cap:=by
 rcases h.2 with ⟨hv,h0⟩ | ⟨g,cap,cur,rfl,_⟩
 ·subst h0;exact ⟨_,_,hv⟩
 ·exact ⟨_,_,rfl⟩
end Mem
namespace Hier
open D Num
def ty (n:Int) (t:Ty):Bool:=if t.kind=1∨t.kind=2 then decide (t.cls=0) else if t.kind=3 then decide (0≤t.cls∧t.cls < n) else false
def nil:Cls:=⟨0,[]⟩
def at' (l:List Cls) (i:Nat):Cls:=l.getD i nil
def supOk (i:Nat) (s:Int):Bool:=if i=0 then decide (s = -1) else decide (0≤s∧s < i)
def cls (n:Int) (i:Nat) (c:Cls):Bool:=supOk i c.sup && decide (c.fields.length≤6) && c.fields.all (ty n)
def may (l:List Cls):Bool:=decide (4≤l.length∧l.length≤12) && (List.range l.length).all fun i=>cls l.length i (at' l i)
theorem at_eq {l:List Cls}{i:Nat}(h:i < l.length):at' l i=l[i]:=by simp [at',h]
theorem may_iff (l:List Cls):may l=true↔(4≤l.length∧l.length≤12)∧∀ i (h:i < l.length),cls l.length i l[i]=true:=by
 unfold may
 rw [Bool.and_eq_true,decide_eq_true_eq,List.all_eq_true]
 constructor
 ·rintro ⟨h1,h2⟩
  exact ⟨h1,fun i h=>by rw [← at_eq h];exact h2 i (by simpa using h)⟩
 ·rintro ⟨h1,h2⟩
  exact ⟨h1,fun i h=>by
                             have h':i < l.length:=by simpa using h
                             rw [at_eq h'];exact h2 i h'⟩
theorem may_false_len {l:List Cls}(h:¬ (4≤l.length∧l.length≤12)):may l=false:=by
 rw [Bool.eq_false_iff];intro h';exact h ((may_iff l).1 h').1
theorem may_false_at {l:List Cls}{i:Nat}(h:i < l.length) (hc:cls l.length i l[i]=false):may l=false:=by
 rw [Bool.eq_false_iff];intro h';rw [((may_iff l).1 h').2 i h] at hc;cases hc
def sup (l:List Cls) (c:Int):Int:=(at' l c.toNat).sup
def Wf (l:List Cls):Prop:=∀ i:Nat,i < l.length→-1≤(at' l i).sup∧(at' l i).sup < i
theorem wf_of_may {l:List Cls}(h:may l=true):Wf l:=by
 intro i hi
 have:=((may_iff l).1 h).2 i hi
 rw [at_eq hi]
 simp only [cls,supOk,Bool.and_eq_true] at this
 obtain ⟨⟨h1,_⟩,_⟩:=this
 split at h1 <;> simp only [decide_eq_true_eq] at h1 <;> omega
def upN:Nat→List Cls→Int→List Int
 | 0,_,_=>[]
 | k+1,l,c=>if 0≤c∧c < l.length then c :: upN k l (sup l c) else []
def up (l:List Cls) (c:Int):List Int:=upN (l.length+1) l c
theorem upN_more {l:List Cls}(hw:Wf l):∀ (k m:Nat) (c:Int),c < k→c < m→upN k l c=upN m l c:=by
 intro k
 induction k with
 | zero =>
  intro m c h1 h2
  cases m with
  | zero=>rfl
  | succ m=>rw [upN,upN,if_neg (by omega)]
 | succ k ih =>
  intro m c h1 h2
  cases m with
  | zero=>rw [upN,upN,if_neg (by omega)]
  | succ m =>
   rw [upN,upN]
   split
   ·rename_i h
    have:=hw c.toNat (by omega)
    rw [ih m (sup l c) (by unfold sup;omega) (by unfold sup;omega)]
   ·rfl
theorem up_out {l:List Cls}{c:Int}(h:¬ (0≤c∧c < l.length)):up l c=[]:=by
 rw [up,upN,if_neg h]
theorem up_in {l:List Cls}(hw:Wf l){c:Int}(h:0≤c∧c < l.length):up l c=c :: up l (sup l c):=by
 have:=hw c.toNat (by omega)
 rw [up,upN,if_pos h]
 congr 1
 exact upN_more hw _ _ _ (by unfold sup;omega) (by unfold sup;omega)
def is (l:List Cls) (c d:Int):Bool:=(up l c).contains d
def below (l:List Cls) (c d:Int):Bool:=may l && is l c d
theorem is_out {l:List Cls}{c d:Int}(h:¬ (0≤c∧c < l.length)):is l c d=false:=by rw [is,up_out h];rfl
theorem is_in {l:List Cls}(hw:Wf l){c d:Int}(h:0≤c∧c < l.length):is l c d=(decide (d=c) || is l (sup l c) d):=by
 rw [is,up_in hw h,List.contains_cons,is]
 congr 1
theorem is_le {l:List Cls}(hw:Wf l):∀ (k:Nat) (c d:Int),c < k→is l c d=true→0≤d∧d≤c:=by
 intro k
 induction k with
 | zero=>intro c d h1 h2;rw [is_out (by omega)] at h2;cases h2
 | succ k ih =>
  intro c d h1 h2
  by_cases h:0≤c∧c < l.length
  ·rw [is_in hw h,Bool.or_eq_true,decide_eq_true_eq] at h2
   have:=hw c.toNat (by omega)
   rcases h2 with h2 | h2
   ·omega
   ·have:=ih (sup l c) d (by unfold sup;omega) h2
    unfold sup at this;omega
  ·rw [is_out h] at h2;cases h2
theorem is_le' {l:List Cls}(hw:Wf l){c d:Int}(h:is l c d=true):0≤d∧d≤c:=is_le hw (c.toNat+1) c d (by omega) h
theorem is_lt {l:List Cls}{c d:Int}(h:is l c d=true):0≤c∧c < l.length:=by
 by_cases h':0≤c∧c < l.length
 ·exact h'
 ·rw [is_out h'] at h;cases h
end Hier
namespace Form
open D Num
def slots:List Ty→Nat
 | []=>0
 | t :: l=>(if t.kind=2 then 2 else 1)+slots l
theorem slots_snoc (l:List Ty) (t:Ty):slots (l++[t])=slots l+(if t.kind=2 then 2 else 1):=by
 induction l with
 | nil=>simp [slots]
 | cons a l ih=>simp only [List.cons_append,slots,ih];omega
theorem slots_take {l:List Ty}{k:Nat}(h:k < l.length):slots (l.take (k+1))=slots (l.take k)+(if l[k].kind=2 then 2 else 1):=by
 rw [List.take_succ_eq_append_getElem h,slots_snoc]
theorem slots_le (l:List Ty):slots l≤2*l.length:=by
 induction l with
 | nil=>simp [slots]
 | cons a l ih=>simp only [slots,List.length_cons];split <;> omega
def wide (k:Int):Int:=if k=2 then 2 else 1
def rng (n lo hi:Int):Bool:=decide (lo≤n∧n < hi)
def nf (l:List Cls) (c:Int):Int:=(Hier.at' l c.toNat).fields.length
def hd (nc ncode:Int) (h:Hd):Bool:=decide (0≤h.lo∧h.lo < h.hi∧h.hi≤ncode) && rng h.go 0 ncode && rng h.cls 0 nc
def ret (nc:Int) (t:Ty):Bool:=decide (t.kind=0∧t.cls=0) || Hier.ty nc t
def head (nc:Int) (m:Me) (most:Int):Bool :=
 m.params.all (Hier.ty nc) && m.handlers.all (hd nc m.code.length) && decide (m.params.length≤4) && ret nc m.ret && rng m.code.length 1 (most+1) && decide (m.handlers.length≤8)
def sa (cl:List Cls) (nm ncode locals:Int) (i:Ins):Bool :=
 if i.op=4∨i.op=5 then rng i.a 0 (locals+1 - wide i.b)
 else if i.op=6∨i.op=7 then rng i.a 1 9
 else if i.op=11∨i.op=12∨i.op=13 then rng i.a 0 ncode
 else if i.op=14∨i.op=15∨i.op=16∨i.op=17∨i.op=18 then rng i.a 0 cl.length
 else if i.op=19 then rng i.a 0 nm
 else if i.op=24 then rng i.a 1 3
 else if 1≤i.op∧i.op≤25 then decide (i.a=0)
 else false
def sn (i:Ins):Bool :=
 if i.op=1 then decide (wrap32 i.n=i.n) else if i.op=2 then true else decide (i.n=0)
theorem head_param {nc:Int}{m:Me}{most:Int}{k:Nat}(h:k < m.params.length) (hf:Hier.ty nc m.params[k]=false):head nc m most=false:=by
 have:m.params.all (Hier.ty nc)=false:=by rw [List.all_eq_false];exact ⟨_,List.getElem_mem h,by rw [hf];simp⟩
 simp [head,this]
theorem head_hd {nc:Int}{m:Me}{most:Int}{k:Nat}(h:k < m.handlers.length) (hf:hd nc m.code.length m.handlers[k]=false):head nc m most=false:=by
 have:m.handlers.all (hd nc m.code.length)=false:=by rw [List.all_eq_false];exact ⟨_,List.getElem_mem h,by rw [hf];simp⟩
 simp [head,this]
theorem all_of {α:Type}{l:List α}{p:α→Bool}(h:∀ j (hj:j < l.length),p l[j]=true):l.all p=true:=by
 rw [List.all_eq_true]
 intro x hx
 obtain ⟨j,hj,rfl⟩:=List.getElem_of_mem hx
 exact h j hj
theorem all_not {α:Type}{l:List α}{p:α→Bool}{k:Nat}(h:k < l.length) (hf:p l[k]=false):l.all p=false:=by
 rw [List.all_eq_false];exact ⟨_,List.getElem_mem h,by rw [hf];simp⟩
theorem all_step {α:Type}{l:List α}{p:α→Bool}{k:Nat}(hall:∀ j (h:j < l.length),j < k→p l[j]=true) (hlt:k < l.length) (hc:p l[k]=true):∀ j (h:j < l.length),j < k+1→p l[j]=true:=fun j h hj=>by
 by_cases e:j=k
 ·subst e;exact hc
 ·exact hall j h (by omega)
theorem head_rest {nc:Int}{m:Me}{most:Int}(h1:m.params.all (Hier.ty nc)=true) (h2:m.handlers.all (hd nc m.code.length)=true) :
  head nc m most=(decide (m.params.length≤4) && ret nc m.ret && rng m.code.length 1 (most+1) && decide (m.handlers.length≤8)):=by
 simp only [head,h1,h2,Bool.true_and]
end Form
namespace Run
open D Num
structure Vl where
 kind:Int
 n:Int
def Vl.nil:Vl:=⟨0,0⟩
structure Ob where
 cls:Int
 held:List ((Int × Int) × Vl)
structure Hp where
 objs:List Ob
 out:List Int
 used:Nat
 steps:Nat
inductive Res (α:Type) where
 | ok (a:α) (h:Hp)
 | thrown (o:Nat) (h:Hp)
 | stop (e:Int) (h:Hp)
def Res.bind {α β:Type}(r:Res α) (k:α→Hp→Res β):Res β :=
 match r with
 | .ok a h=>k a h
 | .thrown o h=>.thrown o h
 | .stop e h=>.stop e h
def ftype (l:List Cls) (c k:Int):Ty:=(Hier.at' l c.toNat).fields.getD k.toNat ⟨0,0⟩
def zero (t:Ty):Vl:=if t.kind=3 then ⟨3,-1⟩ else ⟨t.kind,0⟩
def fieldsOf (c:Nat) (l:List Ty):List ((Int × Int) × Vl):=(List.range l.length).map fun (k:Nat)=>(((c:Int),(k:Int)),zero (l.getD k ⟨0,0⟩))
def fresh (l:List Cls) (class_:Int):List ((Int × Int) × Vl):=(List.range l.length).flatMap fun (c:Nat)=>if Hier.is l class_ c then fieldsOf c (Hier.at' l c).fields else []
def obj (h:Hp) (n:Int):Ob:=h.objs.getD n.toNat ⟨0,[]⟩
def find (l:List ((Int × Int) × Vl)) (k:Int × Int):Vl:=((l.find? fun x=>decide (x.1=k)).map (·.2)).getD Vl.nil
def become (l:List ((Int × Int) × Vl)) (k:Int × Int) (v:Vl):List ((Int × Int) × Vl):=l.map fun x=>if x.1=k then (k,v) else x
def new (l:List Cls) (class_:Int) (h:Hp):Res Vl :=
 if 100≤h.objs.length then .stop 4 h else .ok ⟨3,h.objs.length⟩ { h with objs:=h.objs++[⟨class_,fresh l class_⟩] }
def raise {α:Type}(l:List Cls) (class_:Int) (h:Hp):Res α :=
 (new l class_ h).bind fun v h=>.thrown v.n.toNat h
def ofT (l:List Cls) (h:Hp) (v:Vl) (t:Ty):Bool :=
 decide (v.kind=t.kind) && (decide (t.kind≠3) || decide (v.n < 0) || Hier.is l (obj h v.n).cls t.cls)
def throw {α:Type}(l:List Cls) (v:Vl) (h:Hp):Res α :=
 if v.kind≠3 then .stop 6 h else if v.n < 0 then raise l 1 h else .thrown v.n.toNat h
def get (l:List Cls) (ref:Vl) (class_ field:Int) (h:Hp):Res Vl :=
 if ofT l h ref ⟨3,class_⟩=false then .stop 6 h else if ref.n < 0 then raise l 1 h else .ok (find (obj h ref.n).held (class_,field)) h
def put (l:List Cls) (ref:Vl) (class_ field:Int) (v:Vl) (t:Ty) (h:Hp):Res Unit :=
 if ofT l h v t=false then .stop 6 h else if ofT l h ref ⟨3,class_⟩=false then .stop 6 h else if ref.n < 0 then raise l 1 h
 else .ok () { h with objs:=h.objs.set ref.n.toNat ⟨(obj h ref.n).cls,become (obj h ref.n).held (class_,field) v⟩ }
def cast (l:List Cls) (v:Vl) (class_:Int) (h:Hp):Res Unit :=
 if v.kind≠3 then .stop 6 h else if ofT l h v ⟨3,class_⟩=false then raise l 3 h else .ok () h
def isV (l:List Cls) (v:Vl) (class_:Int) (h:Hp):Res Vl :=
 if v.kind≠3 then .stop 6 h else .ok ⟨1,if 0≤v.n∧Hier.is l (obj h v.n).cls class_=true then 1 else 0⟩ h
def numOf (kind op a b:Int):Int × Bool:=if kind=1 then Num.int op a b else Num.long op a b
def reckon (l:List Cls) (a b:Vl) (kind op:Int) (h:Hp):Res Vl :=
 if a.kind≠kind∨b.kind≠kind then .stop 6 h else if (numOf kind op a.n b.n).2=false then raise l 2 h else .ok ⟨kind,(numOf kind op a.n b.n).1⟩ h
def emit (v:Vl) (kind:Int) (h:Hp):Res Unit :=
 if v.kind≠kind then .stop 6 h else .ok () { h with out:=h.out++[v.n] }
def takeIn (input:List Int) (h:Hp):Res Vl :=
 if input.length≤h.used then .stop 3 h else .ok ⟨2,input.getD h.used 0⟩ { h with used:=h.used+1 }
def lose (l:List Vl) (at_:Nat):List Vl :=
 if (l.getD at_ Vl.nil).kind=9 then (l.set (at_ - 1) Vl.nil).set at_ Vl.nil
 else if (l.getD at_ Vl.nil).kind=2 then (l.set (at_+1) Vl.nil).set at_ Vl.nil
 else l.set at_ Vl.nil
def store (l:List Vl) (at_:Nat) (v:Vl):List Vl :=
 if v.kind=2 then ((lose (lose l at_) (at_+1)).set (at_+1) ⟨9,0⟩).set at_ v else (lose l at_).set at_ v
def width (v:Vl):Nat:=if v.kind=2 then 2 else 1
def size:List Vl→Nat
 | []=>0
 | v :: l=>width v+size l
def stores:List Vl→Nat→List Vl→List Vl
 | l,_,[]=>l
 | l,at_,v :: vs=>stores (store l at_ v) (at_+width v) vs
inductive Act (Fr:Type) where
 | go (fr:Fr) (h:Hp)
 | back (v:Vl) (h:Hp)
 | thrown (o:Nat) (h:Hp)
 | stop (e:Int) (h:Hp)
 | call (k:Nat) (args:List Vl) (fr:Fr) (h:Hp)
def Res.act {α Fr:Type}(r:Res α) (k:α→Hp→Act Fr):Act Fr :=
 match r with
 | .ok a h=>k a h
 | .thrown o h=>.thrown o h
 | .stop e h=>.stop e h
structure Mach (Fr:Type) where
 at_:Fr→Nat
 enter:Me→List Vl→Fr
 step:Fi→List Int→Me→Ins→Fr→Hp→Act Fr
 resume:Me→Me→Fr→Vl→Option Fr
 caught:Me→Fr→Nat→Nat→Option Fr
def nilMe:Me:=⟨[],⟨0,0⟩,0,0,0,[],[]⟩
def meAt (f:Fi) (k:Nat):Me:=f.methods.getD k nilMe
def handler (l:List Cls) (m:Me) (at_:Nat) (cls:Int):Option Hd:=m.handlers.find? fun x=>decide (x.lo≤at_) && decide ((at_:Int) < x.hi) && Hier.is l cls x.cls
def allOf (l:List Cls) (h:Hp):List Vl→List Ty→Bool
 | v :: vs,t :: ts=>ofT l h v t && allOf l h vs ts
 | _,[]=>true
 | [],_ :: _=>false
inductive Next (Fr:Type) where
 | go (fr:Fr)
 | thrown
 | stuck
def after {Fr:Type}(M:Mach Fr) (f:Fi) (m:Me) (fr:Fr) (o:Nat) (h:Hp):Next Fr :=
 match handler f.classes m (M.at_ fr) (obj h o).cls with
 | none=>.thrown
 | some x=>match M.caught m fr x.go.toNat o with
  | none=>.stuck
  | some fr=>.go fr
def loop {Fr:Type}(M:Mach Fr) (f:Fi) (input:List Int) (fuel:Nat):Nat→Nat→Me→Fr→Hp→Res Vl
 | 0,_,_,_,h=>.stop 0 h
 | g+1,d,m,fr,h =>
  if fuel≤h.steps then .stop 0 h
  else match m.code[M.at_ fr]? with
  | none=>.stop 6 { h with steps:=h.steps+1 }
  | some i=>match M.step f input m i fr { h with steps:=h.steps+1 } with
   | .stop e h=>.stop e h
   | .back v h=>.ok v h
   | .go fr h=>loop M f input fuel g d m fr h
   | .thrown o h=>match after M f m fr o h with
    | .go fr=>loop M f input fuel g d m fr h
    | .thrown=>.thrown o h
    | .stuck=>.stop 6 h
   | .call k args fr h =>
    if allOf f.classes h args (meAt f k).params=false then .stop 6 h
    else if 20≤d then .stop 5 h
    else match loop M f input fuel g (d+1) (meAt f k) (M.enter (meAt f k) args) h with
     | .stop e h=>.stop e h
     | .ok v h=>match M.resume m (meAt f k) fr v with
      | none=>.stop 6 h
      | some fr=>loop M f input fuel g d m fr h
     | .thrown o h=>match after M f m fr o h with
      | .go fr=>loop M f input fuel g d m fr h
      | .thrown=>.thrown o h
      | .stuck=>.stop 6 h
def call {Fr:Type}(M:Mach Fr) (f:Fi) (input:List Int) (fuel g d:Nat) (m:Me) (args:List Vl) (h:Hp):Res Vl :=
 if allOf f.classes h args m.params=false then .stop 6 h
 else if 20≤d then .stop 5 h
 else loop M f input fuel g (d+1) m (M.enter m args) h
structure Sh where
 fin:Int
 value:Int
 cls:Int
 out:List Int
 used:Int
 steps:Int
def Sh.nil:Sh:=⟨0,0,0,[],0,0⟩
def shown (r:Res Vl):Sh :=
 match r with
 | .ok v h=>⟨1,if v.kind=1∨v.kind=2 then v.n else 0,0,h.out,h.used,h.steps⟩
 | .thrown o h=>⟨2,0,(obj h o).cls,h.out,h.used,h.steps⟩
 | .stop e h=>⟨e,0,0,h.out,h.used,h.steps⟩
def argOf (t:Ty) (n:Int):Vl:=if t.kind=1 then ⟨1,wrap32 n⟩ else ⟨t.kind,n⟩
def begin_ (f:Fi) (entry:Int) (args input:List Int) (fuel:Int):Int :=
 if entry < 0∨(f.methods.length:Int)≤entry∨fuel < 0∨60000 < fuel then 4
 else if 1000 < input.length then 1
 else if args.length≠(meAt f entry.toNat).params.length∨(meAt f entry.toNat).params.any (fun t=>decide (t.kind=3))=true then 3
 else 0
def play {Fr:Type}(M:Mach Fr) (f:Fi) (entry:Int) (args input:List Int) (fuel:Int):Sh × Int :=
 if begin_ f entry args input fuel≠0 then (Sh.nil,begin_ f entry args input fuel)
 else (shown (call M f input fuel.toNat (fuel.toNat+1) 0 (meAt f entry.toNat) (List.zipWith argOf (meAt f entry.toNat).params args) ⟨[],[],0,0⟩),0)
structure Sf where
 loc:List Vl
 stk:List Vl
 at_:Nat
def top (l:List Vl):Vl:=l.getLast?.getD Vl.nil
def push (m:Me) (fr:Sf) (st:List Vl) (v:Vl) (h:Hp):Act Sf :=
 if (size (st++[v]):Int)≤m.stack then .go ⟨fr.loc,st++[v],fr.at_+1⟩ h else .stop 6 h
def pop1 (fr:Sf) (h:Hp) (k:Vl→List Vl→Act Sf):Act Sf :=
 if fr.stk=[] then .stop 6 h else k (top fr.stk) fr.stk.dropLast
def kindly (v:Vl) (kind:Int) (h:Hp) (k:Act Sf):Act Sf:=if v.kind=kind then k else .stop 6 h
def on (fr:Sf) (st:List Vl) (at_:Nat):Sf:=⟨fr.loc,st,at_⟩
def s5 (i:Ins) (fr:Sf) (h:Hp):Act Sf:=pop1 fr h fun v st=>kindly v i.b h (.go ⟨store fr.loc i.a.toNat v,st,fr.at_+1⟩ h)
def s8 (m:Me) (fr:Sf) (h:Hp):Act Sf:=pop1 fr h fun v st=>kindly v 1 h (push m fr st ⟨2,v.n⟩ h)
structure Rf where
 regs:List Vl
 at_:Nat
 given:Vl
 got:Vl
def rd (fr:Rf) (a:Int):Vl:=fr.regs.getD a.toNat Vl.nil
def rkind (v:Vl) (kind:Int) (h:Hp) (k:Act Rf):Act Rf:=if v.kind=kind then k else .stop 6 h
def rgo (fr:Rf) (at_:Nat) (h:Hp):Act Rf:=.go ⟨fr.regs,at_,Vl.nil,Vl.nil⟩ h
def rset (fr:Rf) (a:Int) (v:Vl) (h:Hp):Act Rf:=.go ⟨store fr.regs a.toNat v,fr.at_+1,Vl.nil,Vl.nil⟩ h
def rargs (fr:Rf):List Int→List Ty→Option (List Vl)
 | _,[]=>some []
 | [],_ :: _=>none
 | a :: xs,t :: ts=>if (rd fr a).kind=t.kind then (rargs fr xs ts).map (rd fr a :: ·) else none
def r4 (i:Ins) (fr:Rf) (h:Hp):Act Rf:=rkind (rd fr i.b) i.c h (rset fr i.a (rd fr i.b) h)
def r56 (l:List Cls) (kind:Int) (i:Ins) (fr:Rf) (h:Hp):Act Rf:=(reckon l (rd fr i.b) (rd fr i.c) kind i.n h).act fun v h=>rset fr i.a v h
def r7 (i:Ins) (fr:Rf) (h:Hp):Act Rf:=rkind (rd fr i.b) 1 h (rset fr i.a ⟨2,(rd fr i.b).n⟩ h)
def r8 (i:Ins) (fr:Rf) (h:Hp):Act Rf:=rkind (rd fr i.b) 2 h (rset fr i.a ⟨1,wrap32 (rd fr i.b).n⟩ h)
def r9 (i:Ins) (fr:Rf) (h:Hp):Act Rf:=rkind (rd fr i.b) 2 h (rkind (rd fr i.c) 2 h (rset fr i.a ⟨1,Num.cmp (rd fr i.b).n (rd fr i.c).n⟩ h))
def r11 (i:Ins) (fr:Rf) (h:Hp):Act Rf:=rkind (rd fr i.c) 1 h (rgo fr (if Num.holds i.b (rd fr i.c).n then i.a.toNat else fr.at_+1) h)
def r12 (i:Ins) (fr:Rf) (h:Hp):Act Rf:=rkind (rd fr i.c) 3 h (rgo fr (if (rd fr i.c).n < 0 then i.a.toNat else fr.at_+1) h)
def r13 (l:List Cls) (i:Ins) (fr:Rf) (h:Hp):Act Rf:=(new l i.b h).act fun v h=>rset fr i.a v h
def r14 (l:List Cls) (i:Ins) (fr:Rf) (h:Hp):Act Rf:=rkind (rd fr i.b) 3 h ((get l (rd fr i.b) i.c i.n h).act fun v h=>rset fr i.a v h)
def r15 (l:List Cls) (i:Ins) (fr:Rf) (h:Hp):Act Rf:=rkind (rd fr i.b) 3 h (rkind (rd fr i.a) (ftype l i.c i.n).kind h ((put l (rd fr i.b) i.c i.n (rd fr i.a) (ftype l i.c i.n) h).act fun _ h=>rgo fr (fr.at_+1) h))
def r16 (l:List Cls) (i:Ins) (fr:Rf) (h:Hp):Act Rf:=rkind (rd fr i.a) 3 h ((cast l (rd fr i.a) i.b h).act fun _ h=>rgo fr (fr.at_+1) h)
def r17 (l:List Cls) (i:Ins) (fr:Rf) (h:Hp):Act Rf:=rkind (rd fr i.b) 3 h ((isV l (rd fr i.b) i.c h).act fun v h=>rset fr i.a v h)
def r18 (f:Fi) (i:Ins) (fr:Rf) (h:Hp):Act Rf :=
 match rargs fr i.args (meAt f i.a.toNat).params with
 | none=>.stop 6 h
 | some args=>.call i.a.toNat args ⟨fr.regs,fr.at_,Vl.nil,Vl.nil⟩ h
def r19 (i:Ins) (fr:Rf) (h:Hp):Act Rf:=rkind fr.given i.b h (rset fr i.a fr.given h)
def r20 (l:List Cls) (m:Me) (i:Ins) (fr:Rf) (h:Hp):Act Rf :=
 if m.ret.kind=0 then .back Vl.nil h else rkind (rd fr i.a) m.ret.kind h (if ofT l h (rd fr i.a) m.ret then .back (rd fr i.a) h else .stop 6 h)
def r21 (l:List Cls) (i:Ins) (fr:Rf) (h:Hp):Act Rf:=rkind (rd fr i.a) 3 h ((throw l (rd fr i.a) h).act fun (_:Unit) h=>.stop 6 h)
def r22 (i:Ins) (fr:Rf) (h:Hp):Act Rf:=rkind fr.got 3 h (rset fr i.a fr.got h)
def r23 (i:Ins) (fr:Rf) (h:Hp):Act Rf:=rkind (rd fr i.a) i.b h ((emit (rd fr i.a) i.b h).act fun _ h=>rgo fr (fr.at_+1) h)
def r24 (input:List Int) (i:Ins) (fr:Rf) (h:Hp):Act Rf:=(takeIn input h).act fun v h=>rset fr i.a v h
def rstep (f:Fi) (input:List Int) (m:Me) (i:Ins) (fr:Rf) (h:Hp):Act Rf :=
 if i.op=1 then rset fr i.a ⟨1,i.n⟩ h
 else if i.op=2 then rset fr i.a ⟨2,i.n⟩ h
 else if i.op=3 then rset fr i.a ⟨3,-1⟩ h
 else if i.op=4 then r4 i fr h
 else if i.op=5 then r56 f.classes 1 i fr h
 else if i.op=6 then r56 f.classes 2 i fr h
 else if i.op=7 then r7 i fr h
 else if i.op=8 then r8 i fr h
 else if i.op=9 then r9 i fr h
 else if i.op=10 then rgo fr i.a.toNat h
 else if i.op=11 then r11 i fr h
 else if i.op=12 then r12 i fr h
 else if i.op=13 then r13 f.classes i fr h
 else if i.op=14 then r14 f.classes i fr h
 else if i.op=15 then r15 f.classes i fr h
 else if i.op=16 then r16 f.classes i fr h
 else if i.op=17 then r17 f.classes i fr h
 else if i.op=18 then r18 f i fr h
 else if i.op=19 then r19 i fr h
 else if i.op=20 then r20 f.classes m i fr h
 else if i.op=21 then r21 f.classes i fr h
 else if i.op=22 then r22 i fr h
 else if i.op=23 then r23 i fr h
 else if i.op=24 then r24 input i fr h
 else .stop 6 h
def rresume (_ _:Me) (fr:Rf) (v:Vl):Option Rf:=some ⟨fr.regs,fr.at_+1,v,Vl.nil⟩
def rcaught (_:Me) (fr:Rf) (at_ o:Nat):Option Rf:=some ⟨fr.regs,at_,Vl.nil,⟨3,o⟩⟩
def renter (m:Me) (args:List Vl):Rf:=⟨stores (List.replicate m.regs.toNat Vl.nil) 0 args,0,Vl.nil,Vl.nil⟩
def RM:Mach Rf:=⟨Rf.at_,renter,rstep,rresume,rcaught⟩
end Run
namespace Run
open D Num
def VlOk (n:Nat) (v:Vl):Prop:=Ok v.n∧0≤v.kind∧v.kind≤9∧(v.kind=3→-1≤v.n∧v.n < n)
def VtOk (n:Nat) (v:Vl):Prop:=VlOk n v∧1≤v.kind∧v.kind≤3
def kd (l:List Vl) (i:Nat):Int:=(l.getD i Vl.nil).kind
def Paired (l:List Vl):Prop:=(∀ i,kd l i=2→kd l (i+1)=9)∧(∀ i,kd l i=9→0 < i∧kd l (i - 1)=2)
structure SlotsOk (n:Nat) (l:List Vl):Prop where
 vals:∀ i,VlOk n (l.getD i Vl.nil)
 pair:Paired l
def StkOk (n:Nat) (l:List Vl):Prop:=∀ v∈l,VtOk n v
theorem nil_ok (n:Nat):VlOk n Vl.nil:=⟨by simp [Ok,Vl.nil],by simp [Vl.nil],by simp [Vl.nil],by simp [Vl.nil]⟩
theorem VlOk.mono {n m:Nat}{v:Vl}(h:VlOk n v) (hm:n≤m):VlOk m v:=⟨h.1,h.2.1,h.2.2.1,fun e=>⟨(h.2.2.2 e).1,by have:=(h.2.2.2 e).2;omega⟩⟩
theorem VtOk.mono {n m:Nat}{v:Vl}(h:VtOk n v) (hm:n≤m):VtOk m v:=⟨h.1.mono hm,h.2⟩
theorem SlotsOk.mono {n m:Nat}{l:List Vl}(h:SlotsOk n l) (hm:n≤m):SlotsOk m l:=⟨fun i=>(h.vals i).mono hm,h.pair⟩
theorem StkOk.mono {n m:Nat}{l:List Vl}(h:StkOk n l) (hm:n≤m):StkOk m l:=fun v hv=>(h v hv).mono hm
theorem getD_set (l:List Vl) (j i:Nat) (x:Vl):(l.set j x).getD i Vl.nil=if i=j∧j < l.length then x else l.getD i Vl.nil:=by
 rw [List.getD_eq_getElem?_getD,List.getD_eq_getElem?_getD,List.getElem?_set]
 by_cases e:j=i
 ·subst e
  by_cases h:j < l.length
  ·simp [h]
  ·simp [h]
 ·have e':¬ i=j:=fun h=>e h.symm
  simp [e,e']
theorem getD_out {l:List Vl}{i:Nat}(h:l.length≤i):l.getD i Vl.nil=Vl.nil:=by
 rw [List.getD_eq_getElem?_getD,List.getElem?_eq_none h];rfl
theorem set_nil (l:List Vl) (j i:Nat):(l.set j Vl.nil).getD i Vl.nil=if i=j then Vl.nil else l.getD i Vl.nil:=by
 rw [getD_set]
 by_cases e:i=j
 ·subst e
  by_cases h:i < l.length
  ·simp [h]
  ·rw [if_neg (by omega),if_pos rfl,getD_out (by omega)]
 ·rw [if_neg (by omega),if_neg e]
theorem lose_len (l:List Vl) (a:Nat):(lose l a).length=l.length:=by
 unfold lose;split
 ·simp
 ·split <;> simp
theorem store_len (l:List Vl) (a:Nat) (v:Vl):(store l a v).length=l.length:=by
 unfold store;split <;> simp [lose_len]
theorem lose_getD (l:List Vl) (a i:Nat):(lose l a).getD i Vl.nil=if i=a∨(kd l a=9∧i+1=a)∨(kd l a=2∧i=a+1) then Vl.nil else l.getD i Vl.nil:=by
 unfold lose
 show (if kd l a=9 then _ else if kd l a=2 then _ else _:List Vl).getD i Vl.nil=_
 by_cases h9:kd l a=9
 ·rw [if_pos h9,set_nil,set_nil]
  by_cases e:i=a
  ·rw [if_pos e,if_pos (.inl e)]
  ·rw [if_neg e]
   by_cases e2:i+1=a
   ·rw [if_pos (by omega),if_pos (.inr (.inl ⟨h9,e2⟩))]
   ·rw [if_neg (by omega),if_neg (by omega)]
 ·rw [if_neg h9]
  by_cases h2:kd l a=2
  ·rw [if_pos h2,set_nil,set_nil]
   by_cases e:i=a
   ·rw [if_pos e,if_pos (.inl e)]
   ·rw [if_neg e]
    by_cases e2:i=a+1
    ·rw [if_pos e2,if_pos (.inr (.inr ⟨h2,e2⟩))]
    ·rw [if_neg e2,if_neg (by omega)]
  ·rw [if_neg h2,set_nil]
   by_cases e:i=a
   ·rw [if_pos e,if_pos (.inl e)]
   ·rw [if_neg e,if_neg (by omega)]
theorem lose_kd (l:List Vl) (a i:Nat):kd (lose l a) i=if i=a∨(kd l a=9∧i+1=a)∨(kd l a=2∧i=a+1) then 0 else kd l i:=by
 unfold kd
 rw [lose_getD]
 unfold kd
 split <;> rfl
theorem lose_paired {l:List Vl}(h:Paired l) (a:Nat):Paired (lose l a):=by
 obtain ⟨hA,hB⟩:=h
 have a1:=hA a
 have b1:=hB a
 refine ⟨fun i hi=>?_,fun i hi=>?_⟩
 ·rw [lose_kd] at hi ⊢
  split at hi
  ·omega
  ·rename_i hn
   have:=hA i hi
   rw [if_neg,this]
   rintro (e | ⟨e1,e2⟩ | ⟨e1,e2⟩)
   ·subst e;exact hn (.inr (.inl ⟨this,rfl⟩))
   ·have:=(b1 e1).2
    rw [show a - 1=i+1 by omega] at this
    omega
   ·exact hn (.inl (by omega))
 ·rw [lose_kd] at hi
  split at hi
  ·omega
  ·rename_i hn
   have hb:=hB i hi
   rw [lose_kd]
   refine ⟨hb.1,?_⟩
   rw [if_neg,hb.2]
   rintro (e | ⟨e1,e2⟩ | ⟨e1,e2⟩)
   ·have h2:=hb.2
    rw [e] at h2
    exact hn (.inr (.inr ⟨h2,by omega⟩))
   ·exact hn (.inl (by omega))
   ·have:=a1 e1
    rw [show i - 1=a+1 by omega] at hb
    omega
theorem lose_ok {n:Nat}{l:List Vl}(h:SlotsOk n l) (a:Nat):SlotsOk n (lose l a):=by
 refine ⟨fun i=>?_,lose_paired h.pair a⟩
 rw [lose_getD]
 split
 ·exact nil_ok n
 ·exact h.vals i
theorem kd_set (l:List Vl) (j i:Nat) (x:Vl):kd (l.set j x) i=if i=j∧j < l.length then x.kind else kd l i:=by
 unfold kd;rw [getD_set];split <;> rfl
theorem store_ok {n:Nat}{l:List Vl}(h:SlotsOk n l){a:Nat}{v:Vl}(hv:VtOk n v) (ha:a < l.length) (ha2:v.kind=2→a+1 < l.length):SlotsOk n (store l a v):=by
 unfold store
 by_cases h2:v.kind=2
 ·rw [if_pos h2]
  have hl:=lose_ok (lose_ok h a) (a+1)
  have ha2:=ha2 h2
  have k0:kd (lose (lose l a) (a+1)) a=0:=by
   rw [lose_kd]
   split
   ·rfl
   ·rw [lose_kd,if_pos (.inl rfl)]
  have k1:kd (lose (lose l a) (a+1)) (a+1)=0:=by rw [lose_kd,if_pos (.inl rfl)]
  have hlen:(lose (lose l a) (a+1)).length=l.length:=by rw [lose_len,lose_len]
  generalize lose (lose l a) (a+1)=q at *
  obtain ⟨hvals,hA,hB⟩:=hl
  refine ⟨fun i=>?_,fun i hi=>?_,fun i hi=>?_⟩
  ·rw [getD_set]
   split
   ·exact hv.1
   ·rw [getD_set]
    split
    ·exact ⟨by unfold Ok;simp,by simp,by simp,by simp⟩
    ·exact hvals i
  ·rw [kd_set,kd_set] at hi ⊢
   simp only [List.length_set] at hi ⊢
   by_cases e:i=a
   ·subst e;rw [if_neg (by omega),if_pos (by omega)]
   ·rw [if_neg (by omega)] at hi
    by_cases e1:i=a+1
    ·rw [if_pos (by omega)] at hi;simp at hi
    ·rw [if_neg (by omega)] at hi
     have:=hA i hi
     rw [if_neg,if_neg (by omega),this]
     rintro ⟨e2,_⟩
     rw [e2,k0] at this;omega
  ·rw [kd_set,kd_set] at hi
   simp only [List.length_set] at hi
   by_cases e:i=a
   ·subst e;rw [if_pos (by omega)] at hi;omega
   ·rw [if_neg (by omega)] at hi
    by_cases e1:i=a+1
    ·subst e1
     rw [kd_set,kd_set]
     simp only [List.length_set]
     rw [if_pos (by omega)]
     exact ⟨by omega,h2⟩
    ·rw [if_neg (by omega)] at hi
     have:=hB i hi
     rw [kd_set,kd_set]
     simp only [List.length_set]
     refine ⟨this.1,?_⟩
     rw [if_neg,if_neg,this.2]
     ·rintro ⟨e2,_⟩
      have h3:=this.2
      rw [e2,k1] at h3;omega
     ·rintro ⟨e2,_⟩
      have h3:=this.2
      rw [e2,k0] at h3;omega
 ·rw [if_neg h2]
  have hl:=lose_ok h a
  have k0:kd (lose l a) a=0:=by rw [lose_kd,if_pos (.inl rfl)]
  generalize lose l a=q at *
  obtain ⟨hvals,hA,hB⟩:=hl
  have hk:=hv.2
  refine ⟨fun i=>?_,fun i hi=>?_,fun i hi=>?_⟩
  ·rw [getD_set]
   split
   ·exact hv.1
   ·exact hvals i
  ·rw [kd_set] at hi ⊢
   split at hi
   ·omega
   ·have:=hA i hi
    rw [if_neg,this]
    rintro ⟨e,_⟩
    rw [e,k0] at this;omega
  ·rw [kd_set] at hi
   split at hi
   ·omega
   ·have:=hB i hi
    rw [kd_set,if_neg]
    ·exact this
    ·rintro ⟨e,_⟩
     have h3:=this.2
     rw [e,k0] at h3;omega
theorem pair_lt {l:List Vl}(h:Paired l){i:Nat}(hi:kd l i=2):i+1 < l.length:=by
 have:=h.1 i hi
 refine Nat.lt_of_not_le (fun hle=>?_)
 unfold kd at this
 rw [getD_out hle] at this
 simp [Vl.nil] at this
theorem fresh_ok (n k:Nat):SlotsOk n (List.replicate k Vl.nil):=by
 have e:∀ i,(List.replicate k Vl.nil).getD i Vl.nil=Vl.nil:=fun i=>by
  rw [List.getD_eq_getElem?_getD,List.getElem?_replicate];split <;> rfl
 refine ⟨fun i=>by rw [e];exact nil_ok n,fun i hi=>?_,fun i hi=>?_⟩
 ·unfold kd at hi;rw [e] at hi;simp [Vl.nil] at hi
 ·unfold kd at hi;rw [e] at hi;simp [Vl.nil] at hi
structure ObOk (l:List Cls) (n:Nat) (o:Ob):Prop where
 lo:0≤o.cls
 hi:o.cls < l.length
 keys:o.held.map (·.1)=(fresh l o.cls).map (·.1)
 vals:∀ x∈o.held,VtOk n x.2
 kinds:∀ x∈o.held,x.2.kind=(ftype l x.1.1 x.1.2).kind
structure HpOk (l:List Cls) (input:List Int) (fuel:Nat) (h:Hp):Prop where
 many:h.objs.length≤100
 obs:∀ o∈h.objs,ObOk l h.objs.length o
 out:∀ x∈h.out,Ok x
 outs:h.out.length≤h.steps
 used:h.used≤input.length
 steps:h.steps≤fuel
theorem ObOk.mono {l:List Cls}{n m:Nat}{o:Ob}(h:ObOk l n o) (hm:n≤m):ObOk l m o:=⟨h.lo,h.hi,h.keys,fun x hx=>(h.vals x hx).mono hm,h.kinds⟩
theorem fields_ok {l:List Cls}{n c:Nat}{fs:List Ty}(hf:fs.all (Hier.ty l.length)=true):∀ x∈fieldsOf c fs,VtOk n x.2:=by
 intro x hx
 unfold fieldsOf at hx
 obtain ⟨k,hk,rfl⟩:=List.mem_map.1 hx
 have hk':k < fs.length:=by simpa using hk
 rw [List.getD_eq_getElem?_getD,List.getElem?_eq_getElem hk']
 have h1:=List.all_eq_true.1 hf _ (List.getElem_mem hk')
 simp only [Option.getD_some]
 generalize fs[k]=t at *
 simp only [Hier.ty] at h1
 unfold zero VtOk VlOk Ok
 by_cases e:t.kind=3
 ·rw [if_pos e];simp <;> omega
 ·rw [if_neg e]
  rw [if_neg e] at h1
  by_cases e1:t.kind=1∨t.kind=2
  ·simp <;> omega
  ·rw [if_neg e1] at h1;cases h1
theorem may_fields {l:List Cls}(hm:Hier.may l=true){c:Nat}(hc:c < l.length):(Hier.at' l c).fields.all (Hier.ty l.length)=true:=by
 have:=((Hier.may_iff l).1 hm).2 c hc
 rw [Hier.at_eq hc]
 unfold Hier.cls at this
 rw [Bool.and_eq_true] at this
 exact this.2
theorem fresh_vals {l:List Cls}(hm:Hier.may l=true) (n:Nat) (c:Int):∀ x∈fresh l c,VtOk n x.2:=by
 intro x hx
 unfold fresh at hx
 obtain ⟨k,hk,hx⟩:=List.mem_flatMap.1 hx
 split at hx
 ·exact fields_ok (may_fields hm (by simpa using hk)) x hx
 ·cases hx
theorem fresh_kinds {l:List Cls}(c:Int):∀ x∈fresh l c,x.2.kind=(ftype l x.1.1 x.1.2).kind:=by
 intro x hx
 unfold fresh at hx
 obtain ⟨k,hk,hx⟩:=List.mem_flatMap.1 hx
 split at hx
 ·unfold fieldsOf at hx
  obtain ⟨j,hj,rfl⟩:=List.mem_map.1 hx
  simp only [ftype,Int.toNat_natCast,zero]
  split
  ·rename_i e;rw [e]
  ·rfl
 ·cases hx
theorem find_mem {l:List ((Int × Int) × Vl)}{k:Int × Int}(h:k∈l.map (·.1)):∃ x∈l,x.1=k∧find l k=x.2:=by
 unfold find
 cases hf:l.find? fun x=>decide (x.1=k) with
 | none =>
  rw [List.find?_eq_none] at hf
  obtain ⟨x,hx,e⟩:=List.mem_map.1 h
  exact absurd (by simpa using e) (hf x hx)
 | some x =>
  have h1:=List.find?_some hf
  exact ⟨x,List.mem_of_find?_eq_some hf,by simpa using h1,rfl⟩
theorem fresh_has {l:List Cls}{c d k:Int}(hd:0≤d∧d < l.length) (hi:Hier.is l c d=true) (hk:0≤k∧k < ((Hier.at' l d.toNat).fields.length:Int)):(d,k)∈(fresh l c).map (·.1):=by
 rw [List.mem_map]
 have e1:((d.toNat:Nat):Int)=d:=by omega
 have e2:((k.toNat:Nat):Int)=k:=by omega
 refine ⟨((d,k),zero ((Hier.at' l d.toNat).fields.getD k.toNat ⟨0,0⟩)),?_,rfl⟩
 unfold fresh
 rw [List.mem_flatMap]
 refine ⟨d.toNat,by simp;omega,?_⟩
 rw [e1,if_pos hi]
 unfold fieldsOf
 rw [List.mem_map]
 exact ⟨k.toNat,by simp;omega,by rw [e1,e2]⟩
theorem become_keys (l:List ((Int × Int) × Vl)) (k:Int × Int) (v:Vl):(become l k v).map (·.1)=l.map (·.1):=by
 unfold become
 rw [List.map_map]
 apply List.map_congr_left
 intro x _
 simp only [Function.comp]
 split
 ·rename_i e;exact e.symm
 ·rfl
theorem become_vals {n:Nat}{l:List ((Int × Int) × Vl)}{k:Int × Int}{v:Vl}(h:∀ x∈l,VtOk n x.2) (hv:VtOk n v):∀ x∈become l k v,VtOk n x.2:=by
 intro x hx
 unfold become at hx
 obtain ⟨y,hy,rfl⟩:=List.mem_map.1 hx
 split
 ·exact hv
 ·exact h y hy
theorem become_kinds {l:List Cls}{q:List ((Int × Int) × Vl)}{k:Int × Int}{v:Vl}(h:∀ x∈q,x.2.kind=(ftype l x.1.1 x.1.2).kind) (hv:v.kind=(ftype l k.1 k.2).kind):∀ x∈become q k v,x.2.kind=(ftype l x.1.1 x.1.2).kind:=by
 intro x hx
 unfold become at hx
 obtain ⟨y,hy,rfl⟩:=List.mem_map.1 hx
 split
 ·exact hv
 ·exact h y hy
theorem of_kind {l:List Cls}{h:Hp}{v:Vl}{t:Ty}(h1:ofT l h v t=true):v.kind=t.kind:=by
 unfold ofT at h1
 simp only [Bool.and_eq_true,decide_eq_true_eq] at h1
 exact h1.1
theorem obj_mem {h:Hp}{n:Int}(h0:0≤n) (h1:n < h.objs.length):obj h n∈h.objs:=by
 unfold obj
 rw [List.getD_eq_getElem?_getD,List.getElem?_eq_getElem (by omega)]
 exact List.getElem_mem _
def ResOk {α:Type}(l:List Cls) (input:List Int) (fuel:Nat) (h0:Hp) (R:α→Hp→Prop):Res α→Prop
 | .ok a h=>HpOk l input fuel h∧h0.objs.length≤h.objs.length∧h.steps=h0.steps∧R a h
 | .thrown o h=>HpOk l input fuel h∧h0.objs.length≤h.objs.length∧h.steps=h0.steps∧o < h.objs.length
 | .stop _ h=>HpOk l input fuel h∧h0.objs.length≤h.objs.length∧h.steps=h0.steps
section
variable {l:List Cls}{input:List Int}{fuel:Nat}{h:Hp}
theorem new_ok (hm:Hier.may l=true) (H:HpOk l input fuel h){c:Int}(hc:0≤c∧c < l.length):ResOk l input fuel h (fun v h=>VtOk h.objs.length v∧v.kind=3∧0≤v.n) (new l c h):=by
 unfold new
 split
 ·exact ⟨H,Nat.le_refl _,rfl⟩
 ·refine ⟨⟨by simp;omega,fun o ho=>?_,H.out,H.outs,H.used,H.steps⟩,by simp,rfl,?_⟩
  ·simp only [List.length_append,List.length_cons,List.length_nil]
   rcases List.mem_append.1 ho with ho | ho
   ·exact (H.obs o ho).mono (by omega)
   ·have:o=⟨c,fresh l c⟩:=by simpa using ho
    subst this
    exact ⟨hc.1,hc.2,rfl,fresh_vals hm _ _,fresh_kinds _⟩
  ·refine ⟨⟨⟨?_,?_,?_,?_⟩,?_,?_⟩,rfl,?_⟩ <;> simp [Ok] <;> omega
theorem raise_ok {α:Type}{R:α→Hp→Prop}(hm:Hier.may l=true) (H:HpOk l input fuel h){c:Int}(hc:0≤c∧c < l.length):ResOk l input fuel h R (raise l c h:Res α):=by
 have:=new_ok hm H hc
 unfold raise
 cases hn:new l c h with
 | ok v h' =>
  rw [hn] at this
  obtain ⟨h1,h2,h3,h4,h5,h6⟩:=this
  have:=h4.1.2.2.2 h5
  exact ⟨h1,h2,h3,by omega⟩
 | thrown o h'=>rw [hn] at this;exact this
 | stop e h'=>rw [hn] at this;exact this
theorem throw_ok {α:Type}{R:α→Hp→Prop}(hm:Hier.may l=true) (H:HpOk l input fuel h){v:Vl}(hv:VlOk h.objs.length v):ResOk l input fuel h R (throw l v h:Res α):=by
 unfold throw
 split
 ·exact ⟨H,Nat.le_refl _,rfl⟩
 ·split
  ·have:=(Hier.may_iff l).1 hm
   exact raise_ok hm H (by omega)
  ·rename_i h1 h2
   have:=hv.2.2.2 (by omega)
   exact ⟨H,Nat.le_refl _,rfl,by omega⟩
theorem of_ref {v:Vl}{c:Int}(h1:ofT l h v ⟨3,c⟩=true):v.kind=3∧(v.n < 0∨Hier.is l (obj h v.n).cls c=true):=by
 unfold ofT at h1
 simp only [Bool.and_eq_true,Bool.or_eq_true,decide_eq_true_eq] at h1
 obtain ⟨h1,h2⟩:=h1
 refine ⟨h1,?_⟩
 rcases h2 with (h2 | h2) | h2
 ·simp at h2
 ·exact .inl h2
 ·exact .inr h2
theorem get_ok (hm:Hier.may l=true) (H:HpOk l input fuel h){v:Vl}(hv:VlOk h.objs.length v){c k:Int}(hc:0≤c∧c < l.length) (hk:0≤k∧k < ((Hier.at' l c.toNat).fields.length:Int)):ResOk l input fuel h (fun x h'=>h'=h∧VtOk h.objs.length x∧x.kind=(ftype l c k).kind) (get l v c k h):=by
 unfold get
 cases ho:ofT l h v ⟨3,c⟩
 ·exact ⟨H,Nat.le_refl _,rfl⟩
 ·rw [if_neg (by simp)]
  obtain ⟨h3,h4⟩:=of_ref ho
  split
  ·have:=(Hier.may_iff l).1 hm
   exact raise_ok hm H (by omega)
  ·rename_i hn
   have hvn:=hv.2.2.2 h3
   have hO:=H.obs _ (obj_mem (h:=h) (n:=v.n) (by omega) (by omega))
   have hi:Hier.is l (obj h v.n).cls c=true:=by
                                                         rcases h4 with h4 | h4;· omega
                                                         · exact h4
   have hmem:=fresh_has hc hi hk
   rw [← hO.keys] at hmem
   obtain ⟨x,hx,e1,e⟩:=find_mem hmem
   refine ⟨H,Nat.le_refl _,rfl,rfl,by rw [e];exact hO.vals x hx,?_⟩
   rw [e,hO.kinds x hx,e1]
theorem put_ok (hm:Hier.may l=true) (H:HpOk l input fuel h){r v:Vl}(hr:VlOk h.objs.length r) (hv:VtOk h.objs.length v){c k:Int}:ResOk l input fuel h (fun _ _=>True) (put l r c k v (ftype l c k) h):=by
 unfold put
 split
 ·exact ⟨H,Nat.le_refl _,rfl⟩
 ·split
  ·exact ⟨H,Nat.le_refl _,rfl⟩
  ·rename_i h0 h1
   obtain ⟨h3,h4⟩:=of_ref (by simpa using h1)
   split
   ·have:=(Hier.may_iff l).1 hm
    exact raise_ok hm H (by omega)
   ·have hvn:=hr.2.2.2 h3
    have hO:=H.obs _ (obj_mem (h:=h) (n:=r.n) (by omega) (by omega))
    refine ⟨⟨by simpa using H.many,fun o ho=>?_,H.out,H.outs,H.used,H.steps⟩,by simp,rfl,trivial⟩
    simp only [List.length_set]
    rcases List.mem_or_eq_of_mem_set ho with ho | ho
    ·exact H.obs o ho
    ·subst ho
     exact ⟨hO.lo,hO.hi,(become_keys _ _ _).trans hO.keys,become_vals hO.vals hv,become_kinds hO.kinds (of_kind (by simpa using h0))⟩
theorem cast_ok (hm:Hier.may l=true) (H:HpOk l input fuel h){v:Vl}{c:Int}:ResOk l input fuel h (fun _ h'=>h'=h) (cast l v c h):=by
 unfold cast
 split
 ·exact ⟨H,Nat.le_refl _,rfl⟩
 ·split
  ·have:=(Hier.may_iff l).1 hm
   exact raise_ok hm H (by omega)
  ·exact ⟨H,Nat.le_refl _,rfl,rfl⟩
theorem isV_ok (H:HpOk l input fuel h){v:Vl}{c:Int}:ResOk l input fuel h (fun x h'=>h'=h∧VtOk h.objs.length x∧x.kind=1) (isV l v c h):=by
 unfold isV
 split
 ·exact ⟨H,Nat.le_refl _,rfl⟩
 ·refine ⟨H,Nat.le_refl _,rfl,rfl,?_,rfl⟩
  split <;> refine ⟨⟨?_,?_,?_,?_⟩,?_,?_⟩ <;> simp [Ok]
theorem numOf_ok (kind op a b:Int) (ha:Ok a) (hb:Ok b):Ok (numOf kind op a b).1:=by
 unfold numOf
 split
 ·unfold Num.int;exact wrap32_ok _
 ·exact Num.long_ok op a b ha
theorem reckon_ok (hm:Hier.may l=true) (H:HpOk l input fuel h){a b:Vl}(ha:Ok a.n) (hb:Ok b.n){kind op:Int}(hk:kind=1∨kind=2):ResOk l input fuel h (fun x h'=>h'=h∧VtOk h.objs.length x∧x.kind=kind) (reckon l a b kind op h):=by
 unfold reckon
 split
 ·exact ⟨H,Nat.le_refl _,rfl⟩
 ·split
  ·have:=(Hier.may_iff l).1 hm
   exact raise_ok hm H (by omega)
  ·refine ⟨H,Nat.le_refl _,rfl,rfl,⟨⟨numOf_ok kind op a.n b.n ha hb,?_,?_,?_⟩,?_,?_⟩,rfl⟩ <;> simp <;> omega
end
end Run
namespace Rform
open D Num Go.Proofs.Ytncmhenfgbcihac.Form
def reg (regs n kind:Int):Bool:=rng n 0 (regs+1 - wide kind)
def fk (cl:List Cls) (c n:Int):Int:=((Hier.at' cl c.toNat).fields.getD n.toNat ⟨0,0⟩).kind
def regsOk (regs:Int) (ps:List Ty) (xs:List Int):Bool:=(List.range ps.length).all fun k=>reg regs (xs.getD k 0) (ps.getD k ⟨0,0⟩).kind
def mAt (ms:List Me) (k:Int):List Ty:=((ms.map (·.params)).getD k.toNat [])
def num (i:Ins):Bool :=
 if i.op=1 then decide (wrap32 i.n=i.n) else if i.op=2 then true else if i.op=5∨i.op=6 then rng i.n 1 9
 else if i.op=14∨i.op=15 then true else decide (i.n=0)
def body (cl:List Cls) (ms:List Me) (ncode regs retk:Int) (i:Ins):Bool :=
 if i.op=1 then reg regs i.a 1 && decide (i.b=0) && decide (i.c=0)
 else if i.op=2∨i.op=24 then reg regs i.a 2 && decide (i.b=0) && decide (i.c=0)
 else if i.op=3∨i.op=21∨i.op=22 then reg regs i.a 3 && decide (i.b=0) && decide (i.c=0)
 else if i.op=4 then rng i.c 1 4 && (reg regs i.a i.c && reg regs i.b i.c)
 else if i.op=5 then reg regs i.a 1 && (reg regs i.b 1 && reg regs i.c 1)
 else if i.op=6 then reg regs i.a 2 && (reg regs i.b 2 && reg regs i.c 2)
 else if i.op=7 then reg regs i.a 2 && reg regs i.b 1 && decide (i.c=0)
 else if i.op=8 then reg regs i.a 1 && reg regs i.b 2 && decide (i.c=0)
 else if i.op=9 then reg regs i.a 1 && (reg regs i.b 2 && reg regs i.c 2)
 else if i.op=10 then rng i.a 0 ncode && decide (i.b=0) && decide (i.c=0)
 else if i.op=11 then rng i.a 0 ncode && rng i.b 1 5 && reg regs i.c 1
 else if i.op=12 then rng i.a 0 ncode && decide (i.b=0) && reg regs i.c 3
 else if i.op=13∨i.op=16 then reg regs i.a 3 && rng i.b 0 cl.length && decide (i.c=0)
 else if i.op=14∨i.op=15 then rng i.c 0 cl.length && rng i.n 0 (nf cl i.c) && reg regs i.a (fk cl i.c i.n) && reg regs i.b 3
 else if i.op=17 then reg regs i.a 1 && reg regs i.b 1 && rng i.c 0 cl.length
 else if i.op=18 then rng i.a 0 ms.length && decide (i.args.length=(mAt ms i.a).length) && regsOk regs (mAt ms i.a) i.args && decide (i.b=0) && decide (i.c=0)
 else if i.op=19 then rng i.b 1 4 && reg regs i.a i.b && decide (i.c=0)
 else if i.op=23 then rng i.b 1 3 && reg regs i.a i.b && decide (i.c=0)
 else if i.op=20 then decide (i.b=0) && decide (i.c=0) && (if retk=0 then decide (i.a=0) else reg regs i.a retk)
 else false
def ins (f:Fi) (m:Me) (i:Ins):Bool :=
 (decide (i.op=18) || decide (i.args.length=0)) && body f.classes f.methods m.code.length m.regs m.ret.kind i && num i
def rme (f:Fi) (m:Me):Bool :=
 head f.classes.length m 2400 && decide (m.stack=0) && decide (m.locals=0) && rng m.regs (max 1 (slots m.params:Nat)) 91 && m.code.all (ins f m)
def rmay (f:Fi):Bool:=Hier.may f.classes && rng f.methods.length 1 9 && f.methods.all (rme f)
def kinds (op:Int):Option (Int × Int × Int) :=
 if op=1 then some (1,0,0) else if op=2∨op=24 then some (2,0,0) else if op=3∨op=21∨op=22 then some (3,0,0)
 else if op=5 then some (1,1,1) else if op=6 then some (2,2,2) else if op=7 then some (2,1,0) else if op=8 then some (1,2,0) else if op=9 then some (1,2,2)
 else if op=10 then some (-1,0,0) else if op=11 then some (-1,-1,1) else if op=12 then some (-1,0,3) else if op=13∨op=16 then some (3,-1,0)
 else if op=14∨op=15 then some (-1,3,-1) else if op=17 then some (1,3,-1) else if op=18∨op=20 then some (-1,0,0) else if op=19∨op=23 then some (-1,-1,0)
 else if op=4 then some (-1,-1,-1) else none
end Rform
namespace Run
open D Num
def RetOk (m:Me) (n:Nat) (v:Vl):Prop:=if m.ret.kind=0 then v=Vl.nil else VtOk n v
def From (l:List Cls) (input:List Int) (fuel:Nat) (h0 h:Hp):Prop:=HpOk l input fuel h∧h0.objs.length≤h.objs.length∧h.steps=h0.steps
def ActOk {Fr:Type}(FrOk:Me→Nat→Fr→Prop) (f:Fi) (input:List Int) (fuel:Nat) (m:Me) (h0:Hp):Act Fr→Prop
 | .go fr h=>From f.classes input fuel h0 h∧FrOk m h.objs.length fr
 | .back v h=>From f.classes input fuel h0 h∧RetOk m h.objs.length v
 | .thrown o h=>From f.classes input fuel h0 h∧o < h.objs.length
 | .stop _ h=>From f.classes input fuel h0 h
 | .call k args fr h=>From f.classes input fuel h0 h∧FrOk m h.objs.length fr∧(∀ v∈args,VtOk h.objs.length v)∧args.length=(meAt f k).params.length∧k < f.methods.length
theorem From.refl {l:List Cls}{input:List Int}{fuel:Nat}{h:Hp}(H:HpOk l input fuel h):From l input fuel h h:=⟨H,Nat.le_refl _,rfl⟩
theorem act_ok {Fr α:Type}{FrOk:Me→Nat→Fr→Prop}{f:Fi}{input:List Int}{fuel:Nat}{m:Me}{h0:Hp}{R:α→Hp→Prop}{r:Res α}{k:α→Hp→Act Fr}
  (hr:ResOk f.classes input fuel h0 R r) (hk:∀ a h,From f.classes input fuel h0 h→R a h→ActOk FrOk f input fuel m h0 (k a h)):ActOk FrOk f input fuel m h0 (r.act k):=by
 cases r with
 | ok a h=>exact hk a h ⟨hr.1,hr.2.1,hr.2.2.1⟩ hr.2.2.2
 | thrown o h=>exact ⟨⟨hr.1,hr.2.1,hr.2.2.1⟩,hr.2.2.2⟩
 | stop e h=>exact hr
structure MachOk {Fr:Type}(M:Mach Fr) (FrOk:Me→Nat→Fr→Prop) (f:Fi) (input:List Int) (fuel:Nat):Prop where
 may:Hier.may f.classes=true
 step:∀ m∈f.methods,∀ i∈m.code,∀ fr h,HpOk f.classes input fuel h→h.out.length < h.steps→FrOk m h.objs.length fr→ActOk FrOk f input fuel m h (M.step f input m i fr h)
 enter:∀ m∈f.methods,∀ n args,(∀ v∈args,VtOk n v)→args.length=m.params.length→(∀ i (h:i < args.length),(args[i].kind=(m.params.getD i ⟨0,0⟩).kind))→FrOk m n (M.enter m args)
 resume:∀ m∈f.methods,∀ callee n v fr fr',FrOk m n fr→RetOk callee n v→M.resume m callee fr v=some fr'→FrOk m n fr'
 caught:∀ m∈f.methods,∀ n o at_ fr fr',o < n→n≤100→FrOk m n fr→M.caught m fr at_ o=some fr'→FrOk m n fr'
 mono:∀ m n n' fr,n≤n'→FrOk m n fr→FrOk m n' fr
def CallOk (f:Fi) (input:List Int) (fuel:Nat) (m:Me) (h0:Hp):Res Vl→Prop
 | .ok v h=>(HpOk f.classes input fuel h∧h0.objs.length≤h.objs.length∧h0.steps≤h.steps)∧RetOk m h.objs.length v
 | .thrown o h=>(HpOk f.classes input fuel h∧h0.objs.length≤h.objs.length∧h0.steps≤h.steps)∧o < h.objs.length
 | .stop _ h=>HpOk f.classes input fuel h∧h0.objs.length≤h.objs.length∧h0.steps≤h.steps
theorem CallOk.from {f:Fi}{input:List Int}{fuel:Nat}{m:Me}{h0 h1:Hp}{r:Res Vl}(h:CallOk f input fuel m h1 r) (h2:h0.objs.length≤h1.objs.length) (h3:h0.steps≤h1.steps):CallOk f input fuel m h0 r:=by
 cases r with
 | ok v h'=>obtain ⟨⟨a,b,c⟩,d⟩:=h;exact ⟨⟨a,by omega,by omega⟩,d⟩
 | thrown o h'=>obtain ⟨⟨a,b,c⟩,d⟩:=h;exact ⟨⟨a,by omega,by omega⟩,d⟩
 | stop e h'=>obtain ⟨a,b,c⟩:=h;exact ⟨a,by omega,by omega⟩
theorem step_hp {l:List Cls}{input:List Int}{fuel:Nat}{h:Hp}(H:HpOk l input fuel h) (hs:h.steps < fuel):HpOk l input fuel { h with steps:=h.steps+1 } :=
 ⟨H.many,H.obs,H.out,by have:=H.outs;simp only;omega,H.used,by simp only;omega⟩
theorem allOf_kind {l:List Cls}{h:Hp}:∀ (args:List Vl) (ts:List Ty),allOf l h args ts=true→∀ i (hi:i < args.length),i < ts.length→args[i].kind=(ts.getD i ⟨0,0⟩).kind:=by
 intro args
 induction args with
 | nil=>intro ts _ i hi;simp at hi
 | cons v vs ih =>
  intro ts ha i hi hts
  cases ts with
  | nil=>simp at hts
  | cons t ts =>
   simp only [allOf,Bool.and_eq_true] at ha
   cases i with
   | zero =>
    have:=ha.1
    simp only [ofT,Bool.and_eq_true,decide_eq_true_eq] at this
    simpa using this.1
   | succ i=>simpa using ih ts ha.2 i (by simpa using hi) (by simpa using hts)
theorem meAt_mem {f:Fi}{k:Nat}(h:k < f.methods.length):meAt f k∈f.methods:=by
 unfold meAt
 rw [List.getD_eq_getElem?_getD,List.getElem?_eq_getElem h]
 exact List.getElem_mem h
section
variable {Fr:Type}{M:Mach Fr}{FrOk:Me→Nat→Fr→Prop}{f:Fi}{input:List Int}{fuel:Nat}
theorem after_go (K:MachOk M FrOk f input fuel){m:Me}(hm:m∈f.methods){fr fr':Fr}{o:Nat}{h:Hp}(ho:o < h.objs.length) (H:HpOk f.classes input fuel h) (hf:FrOk m h.objs.length fr) (ha:after M f m fr o h=.go fr'):FrOk m h.objs.length fr':=by
 unfold after at ha
 split at ha
 ·cases ha
 ·split at ha
  ·cases ha
  ·rename_i hc
   injection ha with ha
   subst ha
   exact K.caught m hm _ o _ _ _ ho H.many hf hc
theorem loop_ok (K:MachOk M FrOk f input fuel):∀ (g d:Nat) (m:Me) (fr:Fr) (h:Hp),m∈f.methods→HpOk f.classes input fuel h→FrOk m h.objs.length fr→CallOk f input fuel m h (loop M f input fuel g d m fr h):=by
 intro g
 induction g with
 | zero=>intro d m fr h hm H hf;exact ⟨H,Nat.le_refl _,Nat.le_refl _⟩
 | succ g ih =>
  intro d m fr h hm H hf
  rw [loop]
  by_cases hs:fuel≤h.steps
  ·rw [if_pos hs];exact ⟨H,Nat.le_refl _,Nat.le_refl _⟩
  ·rw [if_neg hs]
   have H1:=step_hp H (by omega)
   cases hi:m.code[M.at_ fr]? with
   | none=>exact ⟨H1,Nat.le_refl _,Nat.le_succ _⟩
   | some i =>
    have hst:=K.step m hm i (List.mem_of_getElem? hi) fr _ H1 (by have:=H.outs;simp only;omega) hf
    simp only
    cases hc:M.step f input m i fr { h with steps:=h.steps+1 } with
    | stop e h' =>
     rw [hc] at hst
     obtain ⟨a,b,c⟩:=hst
     simp only at b c
     exact ⟨a,b,by omega⟩
    | back v h' =>
     rw [hc] at hst
     obtain ⟨⟨a,b,c⟩,e⟩:=hst
     simp only at b c
     exact ⟨⟨a,b,by omega⟩,e⟩
    | go fr' h' =>
     rw [hc] at hst
     obtain ⟨⟨a,b,c⟩,e⟩:=hst
     simp only at b c
     exact (ih d m fr' h' hm a e).from b (by omega)
    | thrown o h' =>
     rw [hc] at hst
     obtain ⟨⟨a,b,c⟩,e⟩:=hst
     simp only at b c
     simp only
     cases hn:after M f m fr o h' with
     | go fr'=>exact (ih d m fr' h' hm a (after_go K hm e a (K.mono _ _ _ _ b hf) hn)).from b (by omega)
     | thrown=>exact ⟨⟨a,b,by omega⟩,e⟩
     | stuck=>exact ⟨a,b,by omega⟩
    | call k args fr' h' =>
     rw [hc] at hst
     obtain ⟨⟨a,b,c⟩,e,hv,hl,hk⟩:=hst
     simp only at b c
     simp only
     cases hall:allOf f.classes h' args (meAt f k).params
     ·rw [if_pos rfl];exact ⟨a,b,by omega⟩
     ·rw [if_neg (by simp)]
      by_cases hd:20≤d
      ·rw [if_pos hd];exact ⟨a,b,by omega⟩
      ·rw [if_neg hd]
       have hin:=ih (d+1) (meAt f k) (M.enter (meAt f k) args) h' (meAt_mem hk) a (K.enter _ (meAt_mem hk) _ args hv hl (fun i hi=>allOf_kind args _ hall i hi (by omega)))
       cases hr:loop M f input fuel g (d+1) (meAt f k) (M.enter (meAt f k) args) h' with
       | stop e' h2=>rw [hr] at hin;obtain ⟨p,q,r⟩:=hin;exact ⟨p,by omega,by omega⟩
       | ok v h2 =>
        rw [hr] at hin
        obtain ⟨⟨p,q,r⟩,s⟩:=hin
        simp only
        cases hre:M.resume m (meAt f k) fr' v with
        | none=>exact ⟨p,by omega,by omega⟩
        | some fr2=>exact (ih d m fr2 h2 hm p (K.resume m hm _ _ _ _ _ (K.mono _ _ _ _ q e) s hre)).from (by omega) (by omega)
       | thrown o h2 =>
        rw [hr] at hin
        obtain ⟨⟨p,q,r⟩,s⟩:=hin
        simp only
        cases hn:after M f m fr' o h2 with
        | go fr2=>exact (ih d m fr2 h2 hm p (after_go K hm s p (K.mono _ _ _ _ q e) hn)).from (by omega) (by omega)
        | thrown=>exact ⟨⟨p,by omega,by omega⟩,s⟩
        | stuck=>exact ⟨p,by omega,by omega⟩
theorem call_ok (K:MachOk M FrOk f input fuel) (g d:Nat) (m:Me) (args:List Vl) (h:Hp) (hm:m∈f.methods) (H:HpOk f.classes input fuel h) (hv:∀ v∈args,VtOk h.objs.length v) (hl:args.length=m.params.length):CallOk f input fuel m h (call M f input fuel g d m args h):=by
 unfold call
 cases hall:allOf f.classes h args m.params
 ·rw [if_pos rfl];exact ⟨H,Nat.le_refl _,Nat.le_refl _⟩
 ·rw [if_neg (by simp)]
  split
  ·exact ⟨H,Nat.le_refl _,Nat.le_refl _⟩
  ·exact loop_ok K g (d+1) m _ h hm H (K.enter m hm _ args hv hl (fun i hi=>allOf_kind args _ hall i hi (by omega)))
end
theorem rng_iff {n lo hi:Int}:Form.rng n lo hi=true↔lo≤n∧n < hi:=by simp [Form.rng]
structure InS (f:Fi) (m:Me) (i:Ins):Prop where
 op:1≤i.op∧i.op≤25
 n1:i.op=1→wrap32 i.n=i.n
 slot:i.op=4∨i.op=5→(1≤i.b∧i.b≤3)∧0≤i.a∧i.a < m.locals+1 - Form.wide i.b
 ops:i.op=6∨i.op=7→1≤i.a∧i.a < 9
 jump:i.op=11∨i.op=12∨i.op=13→0≤i.a∧i.a < m.code.length
 cls:i.op=14∨i.op=15∨i.op=16∨i.op=17∨i.op=18→0≤i.a∧i.a < f.classes.length
 fld:i.op=15∨i.op=16→0≤i.b∧i.b < Form.nf f.classes i.a
 meth:i.op=19→0≤i.a∧i.a < f.methods.length
 out:i.op=24→1≤i.a∧i.a < 3
structure MeS (f:Fi) (m:Me):Prop where
 ins:∀ i∈m.code,InS f m i
 stack:0≤m.stack∧m.stack < 31
 locals:(Form.slots m.params:Int)≤m.locals∧m.locals < 61
 params:m.params.length≤4∧∀ t∈m.params,Hier.ty f.classes.length t=true
 ret:Form.ret f.classes.length m.ret=true
 code:1≤m.code.length∧m.code.length≤400
 hds:m.handlers.length≤8∧∀ x∈m.handlers,Form.hd f.classes.length m.code.length x=true
structure FiS (f:Fi):Prop where
 may:Hier.may f.classes=true
 many:1≤f.methods.length∧f.methods.length≤8
 mes:∀ m∈f.methods,MeS f m
theorem head_iff {nc:Int}{m:Me}{most:Int}(h:Form.head nc m most=true):(∀ t∈m.params,Hier.ty nc t=true)∧(∀ x∈m.handlers,Form.hd nc m.code.length x=true)∧m.params.length≤4∧Form.ret nc m.ret=true∧(1≤(m.code.length:Int)∧(m.code.length:Int) < most+1)∧m.handlers.length≤8:=by
 simp only [Form.head,Bool.and_eq_true,decide_eq_true_eq,List.all_eq_true,rng_iff] at h
 obtain ⟨⟨⟨⟨⟨h1,h2⟩,h3⟩,h4⟩,h5⟩,h6⟩:=h
 exact ⟨h1,h2,h3,h4,h5,h6⟩
structure SfOk (m:Me) (n:Nat) (fr:Sf):Prop where
 loc:SlotsOk n fr.loc
 len:fr.loc.length=m.locals.toNat
 stk:StkOk n fr.stk
theorem SfOk.mono {m:Me}{n n':Nat}{fr:Sf}(h:SfOk m n fr) (hn:n≤n'):SfOk m n' fr:=⟨h.loc.mono hn,h.len,h.stk.mono hn⟩
theorem StkOk.nil (n:Nat):StkOk n []:=fun v hv=>by cases hv
theorem StkOk.dropLast {n:Nat}{st:List Vl}(h:StkOk n st):StkOk n st.dropLast:=fun x hx=>h x (List.dropLast_subset st hx)
theorem StkOk.top {n:Nat}{st:List Vl}(h:StkOk n st) (hne:st≠[]):VtOk n (Run.top st):=by
 unfold Run.top
 rw [List.getLast?_eq_some_getLast hne]
 exact h _ (List.getLast_mem hne)
section
variable {f:Fi}{input:List Int}{fuel:Nat}{m:Me}{i:Ins}{fr:Sf}{h0 h:Hp}
theorem int_ok' (n:Nat){x:Int}(h:Ok x) (k:Int) (hk:k=1∨k=2):VtOk n ⟨k,x⟩:=⟨⟨h,by simp only;omega,by simp only;omega,by simp only;omega⟩,by simp only;omega,by simp only;omega⟩
theorem null_ok (n:Nat):VtOk n ⟨3,-1⟩:=⟨⟨by simp [Ok],by simp,by simp,by simp;omega⟩,by simp,by simp⟩
theorem cmp_okr (a b:Int):Ok (Num.cmp a b):=by unfold Num.cmp Ok;split <;> (try split) <;> omega
end
theorem width_le (v:Vl):1≤width v∧width v≤2:=by unfold width;split <;> omega
theorem stores_ok {n:Nat}:∀ (args:List Vl) (l:List Vl) (a:Nat),SlotsOk n l→(∀ v∈args,VtOk n v)→a+size args≤l.length→SlotsOk n (stores l a args)∧(stores l a args).length=l.length:=by
 intro args
 induction args with
 | nil=>intro l a h _ _;exact ⟨h,rfl⟩
 | cons v vs ih =>
  intro l a h hv hs
  simp only [size] at hs
  have hw:=width_le v
  have h1:=store_ok h (a:=a) (hv v (by simp)) (by omega) (fun h2=>by unfold width at hs;rw [if_pos h2] at hs;omega)
  have h2:=ih (store l a v) (a+width v) h1 (fun x hx=>hv x (by simp [hx])) (by rw [store_len];omega)
  exact ⟨h2.1,h2.2.trans (store_len _ _ _)⟩
theorem size_slots:∀ (args:List Vl) (ts:List Ty),args.length=ts.length→(∀ i (h:i < args.length),args[i].kind=(ts.getD i ⟨0,0⟩).kind)→size args=Form.slots ts:=by
 intro args
 induction args with
 | nil=>intro ts h _;rw [List.eq_nil_of_length_eq_zero (l:=ts) (by simpa using h.symm)];rfl
 | cons v vs ih =>
  intro ts h hk
  cases ts with
  | nil=>simp at h
  | cons t ts =>
   have h0:=hk 0 (by simp)
   simp only [List.getElem_cons_zero,List.getD_cons_zero] at h0
   rw [size,Form.slots,ih ts (by simpa using h) (fun i hi=>by have:=hk (i+1) (by simp;omega);simp only [List.getElem_cons_succ,List.getD_cons_succ] at this;exact this),width,h0]
structure MeR (f:Fi) (m:Me):Prop where
 ins:∀ i∈m.code,Rform.ins f m i=true
 regs:1≤m.regs∧(Form.slots m.params:Int)≤m.regs∧m.regs < 91
 params:m.params.length≤4∧∀ t∈m.params,Hier.ty f.classes.length t=true
 ret:Form.ret f.classes.length m.ret=true
 code:1≤m.code.length∧m.code.length≤2400
 hds:m.handlers.length≤8∧∀ x∈m.handlers,Form.hd f.classes.length m.code.length x=true
structure FiR (f:Fi):Prop where
 may:Hier.may f.classes=true
 many:1≤f.methods.length∧f.methods.length≤8
 mes:∀ m∈f.methods,MeR f m
theorem fiR_of {f:Fi}(h:Rform.rmay f=true):FiR f:=by
 simp only [Rform.rmay,Bool.and_eq_true,rng_iff,List.all_eq_true] at h
 obtain ⟨⟨h1,h2⟩,h3⟩:=h
 refine ⟨h1,by omega,fun m hm=>?_⟩
 have:=h3 m hm
 simp only [Rform.rme,Bool.and_eq_true,rng_iff,List.all_eq_true,decide_eq_true_eq] at this
 obtain ⟨⟨⟨⟨h4,_⟩,_⟩,h6⟩,h7⟩:=this
 obtain ⟨p1,p2,p3,p4,p5,p6⟩:=head_iff h4
 exact ⟨h7,by omega,⟨p3,p1⟩,p4,by omega,p6,p2⟩
structure RfOk (m:Me) (n:Nat) (fr:Rf):Prop where
 regs:SlotsOk n fr.regs
 len:fr.regs.length=m.regs.toNat
 given:VlOk n fr.given
 got:VlOk n fr.got
theorem RfOk.mono {m:Me}{n n':Nat}{fr:Rf}(h:RfOk m n fr) (hn:n≤n'):RfOk m n' fr:=⟨h.regs.mono hn,h.len,h.given.mono hn,h.got.mono hn⟩
theorem reg_iff {regs a kind:Int}(h:Rform.reg regs a kind=true):0≤a∧a.toNat < regs.toNat∧(kind=2→a.toNat+1 < regs.toNat):=by
 have:=rng_iff.1 h
 unfold Form.wide at this
 refine ⟨this.1,?_,fun e=>?_⟩
 ·split at this <;> omega
 ·rw [if_pos e] at this;omega
section
variable {f:Fi}{input:List Int}{fuel:Nat}{m:Me}{i:Ins}{fr:Rf}{h0 h:Hp}
theorem rset_ok (F:From f.classes input fuel h0 h) (hf:RfOk m h0.objs.length fr){a kind:Int}(ha:Rform.reg m.regs a kind=true){v:Vl}(hv:VtOk h.objs.length v) (hk:v.kind=2→kind=2):ActOk RfOk f input fuel m h0 (rset fr a v h):=by
 have hf:=hf.mono F.2.1
 obtain ⟨a0,a1,a2⟩:=reg_iff ha
 exact ⟨F,store_ok hf.regs hv (by rw [hf.len];exact a1) (fun e=>by rw [hf.len];exact a2 (hk e)),by rw [store_len];exact hf.len,nil_ok _,nil_ok _⟩
theorem rgo_ok (F:From f.classes input fuel h0 h) (hf:RfOk m h0.objs.length fr) (a:Nat):ActOk RfOk f input fuel m h0 (rgo fr a h):=by
 have hf:=hf.mono F.2.1
 exact ⟨F,hf.regs,hf.len,nil_ok _,nil_ok _⟩
theorem rkind_ok (F:From f.classes input fuel h0 h){v:Vl}{kind:Int}{k:Act Rf}(hk:v.kind=kind→ActOk RfOk f input fuel m h0 k):ActOk RfOk f input fuel m h0 (rkind v kind h k):=by
 unfold rkind
 split
 ·exact hk ‹_›
 ·exact F
theorem rd_ok {n:Nat}(hf:RfOk m n fr) (a:Int):VlOk n (rd fr a):=hf.regs.vals _
theorem rargs_ok {n:Nat}(hf:RfOk m n fr):∀ (ts:List Ty) (xs:List Int) (args:List Vl),(∀ t∈ts,1≤t.kind∧t.kind≤3)→rargs fr xs ts=some args→(∀ v∈args,VtOk n v)∧args.length=ts.length:=by
 intro ts
 induction ts with
 | nil=>intro xs args _ h;cases xs <;> (simp only [rargs] at h;injection h with h;subst h;exact ⟨fun v hv=>absurd hv (by simp),rfl⟩)
 | cons t ts ih =>
  intro xs args hk h
  cases xs with
  | nil=>simp [rargs] at h
  | cons a xs =>
   simp only [rargs] at h
   split at h
   ·rename_i he
    cases hr:rargs fr xs ts with
    | none=>rw [hr] at h;cases h
    | some l =>
     rw [hr] at h
     injection h with h;subst h
     obtain ⟨h1,h2⟩:=ih xs l (fun x hx=>hk x (by simp [hx])) hr
     have:=hk t (by simp)
     refine ⟨fun v hv=>?_,by simp [h2]⟩
     rcases List.mem_cons.1 hv with hv | hv
     ·subst hv;exact ⟨rd_ok hf a,by omega,by omega⟩
     ·exact h1 v hv
   ·cases h
theorem ty_kind {n:Int}{t:Ty}(h:Hier.ty n t=true):1≤t.kind∧t.kind≤3:=by
 unfold Hier.ty at h
 split at h
 ·omega
 ·split at h
  ·omega
  ·cases h
theorem rstep_ok (S:FiR f) (M:MeR f m) (hi:Rform.ins f m i=true) (hio:Ok i.n) (hin:∀ x∈input,Ok x) (H:HpOk f.classes input fuel h) (ho:h.out.length < h.steps) (hf:RfOk m h.objs.length fr):ActOk RfOk f input fuel m h (rstep f input m i fr h):=by
 have hm:=S.may
 have F:=From.refl H
 simp only [Rform.ins,Bool.and_eq_true] at hi
 obtain ⟨⟨_,hb⟩,_⟩:=hi
 unfold rstep
 by_cases q:i.op=1
 ·rw [if_pos q];simp [Rform.body,q] at hb;exact rset_ok F hf hb.1.1 (int_ok' _ hio 1 (.inl rfl)) (by simp)
 rw [if_neg q];clear q
 by_cases q:i.op=2
 ·rw [if_pos q];simp [Rform.body,q] at hb;exact rset_ok F hf hb.1.1 (int_ok' _ hio 2 (.inr rfl)) (by simp)
 rw [if_neg q];clear q
 by_cases q:i.op=3
 ·rw [if_pos q];simp [Rform.body,q] at hb;exact rset_ok F hf hb.1.1 (null_ok _) (by simp)
 rw [if_neg q];clear q
 by_cases q:i.op=4
 ·rw [if_pos q];simp [Rform.body,q,rng_iff] at hb
  exact rkind_ok F (fun e=>rset_ok F hf hb.2.1 ⟨rd_ok hf _,by omega,by omega⟩ (by omega))
 rw [if_neg q];clear q
 by_cases q:i.op=5
 ·rw [if_pos q];simp [Rform.body,q] at hb
  exact act_ok (reckon_ok hm H (rd_ok hf _).1 (rd_ok hf _).1 (.inl rfl)) (fun v h' F' hv=>rset_ok (kind:=1) F' hf hb.1 (by rw [hv.1];exact hv.2.1) (fun e=>by have:=hv.2.2;omega))
 rw [if_neg q];clear q
 by_cases q:i.op=6
 ·rw [if_pos q];simp [Rform.body,q] at hb
  exact act_ok (reckon_ok hm H (rd_ok hf _).1 (rd_ok hf _).1 (.inr rfl)) (fun v h' F' hv=>rset_ok (kind:=2) F' hf hb.1 (by rw [hv.1];exact hv.2.1) (fun e=>rfl))
 rw [if_neg q];clear q
 by_cases q:i.op=7
 ·rw [if_pos q];simp [Rform.body,q] at hb
  exact rkind_ok F (fun e=>rset_ok F hf hb.1.1 (int_ok' _ (rd_ok hf _).1 2 (.inr rfl)) (fun _=>rfl))
 rw [if_neg q];clear q
 by_cases q:i.op=8
 ·rw [if_pos q];simp [Rform.body,q] at hb
  exact rkind_ok F (fun e=>rset_ok F hf hb.1.1 (int_ok' _ (wrap32_ok _) 1 (.inl rfl)) (by simp))
 rw [if_neg q];clear q
 by_cases q:i.op=9
 ·rw [if_pos q];simp [Rform.body,q] at hb
  exact rkind_ok F (fun e=>rkind_ok F (fun e=>rset_ok F hf hb.1 (int_ok' _ (cmp_okr _ _) 1 (.inl rfl)) (by simp)))
 rw [if_neg q];clear q
 by_cases q:i.op=10
 ·rw [if_pos q];exact rgo_ok F hf _
 rw [if_neg q];clear q
 by_cases q:i.op=11
 ·rw [if_pos q];exact rkind_ok F (fun e=>rgo_ok F hf _)
 rw [if_neg q];clear q
 by_cases q:i.op=12
 ·rw [if_pos q];exact rkind_ok F (fun e=>rgo_ok F hf _)
 rw [if_neg q];clear q
 by_cases q:i.op=13
 ·rw [if_pos q];simp [Rform.body,q,rng_iff] at hb
  exact act_ok (new_ok hm H (by omega)) (fun v h' F' hv=>rset_ok F' hf hb.1.1 hv.1 (by omega))
 rw [if_neg q];clear q
 by_cases q:i.op=14
 ·rw [if_pos q];simp [Rform.body,q,rng_iff] at hb
  refine rkind_ok F (fun e=>act_ok (get_ok hm H (rd_ok hf _) (c:=i.c) (k:=i.n) (by omega) (by have:=hb.1.1.2;unfold Form.nf at this;omega)) (fun v h' F' hv=>rset_ok F' hf hb.1.2 (by rw [hv.1];exact hv.2.1) (fun e=>?_)))
  rw [← e,hv.2.2];rfl
 rw [if_neg q];clear q
 by_cases q:i.op=15
 ·rw [if_pos q];simp [Rform.body,q,rng_iff] at hb
  have hc:0≤i.c∧i.c < f.classes.length:=by omega
  have hn:0≤i.n∧i.n < Form.nf f.classes i.c:=by omega
  have hfa:=may_fields hm (c:=i.c.toNat) (by omega)
  have hk:1≤(ftype f.classes i.c i.n).kind∧(ftype f.classes i.c i.n).kind≤3:=by
   unfold ftype
   unfold Form.nf at hn
   rw [List.getD_eq_getElem?_getD,List.getElem?_eq_getElem (by omega)]
   exact ty_kind (List.all_eq_true.1 hfa _ (List.getElem_mem _))
  exact rkind_ok F (fun e=>rkind_ok F (fun e=>act_ok (put_ok hm H (rd_ok hf _) ⟨rd_ok hf _,by omega,by omega⟩) (fun _ h' F' _=>rgo_ok F' hf _)))
 rw [if_neg q];clear q
 by_cases q:i.op=16
 ·rw [if_pos q];exact rkind_ok F (fun e=>act_ok (cast_ok hm H) (fun _ h' F' _=>rgo_ok F' hf _))
 rw [if_neg q];clear q
 by_cases q:i.op=17
 ·rw [if_pos q];simp [Rform.body,q] at hb
  exact rkind_ok F (fun e=>act_ok (isV_ok H) (fun x h' F' hx=>rset_ok F' hf hb.1.1 (by rw [hx.1];exact hx.2.1) (fun e=>by have:=hx.2.2;omega)))
 rw [if_neg q];clear q
 by_cases q:i.op=18
 ·rw [if_pos q];simp [Rform.body,q,rng_iff] at hb
  have ha:i.a.toNat < f.methods.length:=by omega
  unfold r18
  split
  ·exact F
  ·rename_i args hr
   obtain ⟨h1,h2⟩:=rargs_ok hf _ _ _ (fun t ht=>ty_kind ((S.mes _ (meAt_mem ha)).params.2 t ht)) hr
   exact ⟨F,⟨hf.regs,hf.len,nil_ok _,nil_ok _⟩,h1,h2,ha⟩
 rw [if_neg q];clear q
 by_cases q:i.op=19
 ·rw [if_pos q];simp [Rform.body,q,rng_iff] at hb
  exact rkind_ok F (fun e=>rset_ok F hf hb.1.2 ⟨hf.given,by omega,by omega⟩ (by omega))
 rw [if_neg q];clear q
 by_cases q:i.op=20
 ·rw [if_pos q]
  unfold r20
  by_cases hr:m.ret.kind=0
  ·rw [if_pos hr];exact ⟨F,by rw [RetOk,if_pos hr]⟩
  ·rw [if_neg hr]
   have hk:1≤m.ret.kind∧m.ret.kind≤3:=by
    have:=M.ret
    unfold Form.ret at this
    rw [Bool.or_eq_true,decide_eq_true_eq] at this
    rcases this with h | h
    ·omega
    ·exact ty_kind h
   refine rkind_ok F (fun e=>?_)
   split
   ·exact ⟨F,by rw [RetOk,if_neg hr];exact ⟨rd_ok hf _,by omega,by omega⟩⟩
   ·exact F
 rw [if_neg q];clear q
 by_cases q:i.op=21
 ·rw [if_pos q];exact rkind_ok F (fun e=>act_ok (R:=fun _ _=>True) (throw_ok hm H (rd_ok hf _)) (fun _ h' F' _=>F'))
 rw [if_neg q];clear q
 by_cases q:i.op=22
 ·rw [if_pos q];simp [Rform.body,q] at hb
  exact rkind_ok F (fun e=>rset_ok F hf hb.1.1 ⟨hf.got,by omega,by omega⟩ (by omega))
 rw [if_neg q];clear q
 by_cases q:i.op=23
 ·rw [if_pos q]
  refine rkind_ok F (fun e=>?_)
  unfold emit
  split
  ·exact F
  ·refine rgo_ok (h:={ h with out:=h.out++[(rd fr i.a).n] }) ⟨⟨H.many,H.obs,fun x hx=>?_,?_,H.used,H.steps⟩,Nat.le_refl _,rfl⟩ hf _
   ·rcases List.mem_append.1 hx with hx | hx
    ·exact H.out x hx
    ·have:x=(rd fr i.a).n:=by simpa using hx
     rw [this];exact (rd_ok hf _).1
   ·simp only [List.length_append,List.length_cons,List.length_nil];omega
 rw [if_neg q];clear q
 by_cases q:i.op=24
 ·rw [if_pos q];simp [Rform.body,q] at hb
  unfold r24 takeIn
  split
  ·exact F
  ·rename_i hu
   refine rset_ok (h:={ h with used:=h.used+1 }) ⟨⟨H.many,H.obs,H.out,H.outs,by simp only;omega,H.steps⟩,Nat.le_refl _,rfl⟩ hf hb.1.1 (int_ok' _ ?_ 2 (.inr rfl)) (fun _=>rfl)
   rw [List.getD_eq_getElem?_getD,List.getElem?_eq_getElem (by omega)]
   exact hin _ (List.getElem_mem _)
 rw [if_neg q];clear q
 exact F
end
theorem rm_ok {f:Fi}{input:List Int}{fuel:Nat}(S:FiR f) (hn:∀ m∈f.methods,∀ i∈m.code,Ok i.n) (hin:∀ x∈input,Ok x):MachOk RM RfOk f input fuel:=by
 refine ⟨S.may,fun m hm i hi fr h H ho hf=>rstep_ok S (S.mes m hm) ((S.mes m hm).ins i hi) (hn m hm i hi) hin H ho hf,fun m hm n args hv hl hk=>?_,fun m hm callee n v fr fr' hf hv hr=>?_,fun m hm n o a fr fr' ho hn hf hc=>?_,fun m n n' fr hn hf=>hf.mono hn⟩
 ·have M:=S.mes m hm
  have hsz:=size_slots args m.params hl hk
  have:=stores_ok args (List.replicate m.regs.toNat Vl.nil) 0 (fresh_ok n _) hv (by simp;have:=M.regs.2.1;omega)
  exact ⟨this.1,by rw [show (RM.enter m args).regs.length=_ from this.2];simp,nil_ok _,nil_ok _⟩
 ·change rresume m callee fr v=some fr' at hr
  unfold rresume at hr
  injection hr with hr;subst hr
  refine ⟨hf.regs,hf.len,?_,nil_ok _⟩
  unfold RetOk at hv
  split at hv
  ·subst hv;exact nil_ok _
  ·exact hv.1
 ·change rcaught m fr a o=some fr' at hc
  unfold rcaught at hc
  injection hc with hc;subst hc
  exact ⟨hf.regs,hf.len,nil_ok _,⟨by simp [Ok];omega,by simp,by simp,by simp;omega⟩⟩
end Run
namespace Hpw
open Num Rd D Run Mem
def int (n:Int):Value:=.int .i64 n
def vcell (v:Vl):List Value:=[.int .i64 v.kind,.int .i64 v.n]
def vval (v:Vl):Value:=.agg #[.int .i64 v.kind,.int .i64 v.n]
def vcells (l:List Vl):List Value:=l.flatMap vcell
structure Ev where
 f:Fi
 input:List Int
 fuel:Nat
 hb:Nat
 B:Nat
 vc:Value
 vm:Value
 vi:Value
def nilOb:Ob:=⟨0,[]⟩
theorem vcells_len (l:List Vl):(vcells l).length=l.length*2:=by
 induction l with
 | nil=>rfl
 | cons v l ih=>simp only [vcells,List.flatMap_cons,List.length_append,List.length_cons] at ih ⊢;rw [ih];simp [vcell];omega
theorem vcells_get:∀ (l:List Vl) (i:Nat),i < l.length→(vcells l)[i*2]? = some (.int .i64 (l.getD i Vl.nil).kind)∧(vcells l)[i*2+1]? = some (.int .i64 (l.getD i Vl.nil).n):=by
 intro l
 induction l with
 | nil=>intro i h;simp at h
 | cons v l ih =>
  intro i h
  cases i with
  | zero=>simp [vcells,vcell]
  | succ i =>
   have:=ih i (by simpa using h)
   rw [show (i+1)*2+1=(i*2+1)+2 by omega,show (i+1)*2=i*2+2 by omega]
   simpa [vcells,vcell] using this
theorem vcells_append (l m:List Vl):vcells (l++m)=vcells l++vcells m:=by simp [vcells]
theorem vcells_set:∀ (l:List Vl) (i:Nat) (v:Vl),vcells (l.set i v)=((vcells l).set (i*2) (.int .i64 v.kind)).set (i*2+1) (.int .i64 v.n):=by
 intro l
 induction l with
 | nil=>intro i v;simp [vcells]
 | cons u l ih =>
  intro i v
  cases i with
  | zero=>simp [vcells,vcell]
  | succ i =>
   have:=ih i v
   rw [show (i+1)*2+1=(i*2+1)+2 by omega,show (i+1)*2=i*2+2 by omega]
   simpa [vcells,vcell] using this
end Hpw
namespace HierW
open Num Rd D
def Cs (w:World) (v:Value) (l:List Cls):Prop:=Sl 2 ECls w w.heap.size v l
theorem Cs.next {w w':World}{v:Value}{l:List Cls}(h:Cs w v l) (hb:Below w.heap.size w w'):Cs w' v l:=Sl.mono mCls h hb hb.size
theorem ret_bool {a b:Bool}(h:a=b):Ending.returned (.bool a)=.returned (.bool b):=by rw [h]
theorem ret_int {k:IntKind}{a b:Int}(h:a=b):Ending.returned (.int k a)=.returned (.int k b):=by rw [h]
theorem type (a:Option Addr) (n cap:Nat) (t:Ty) (w:World):Calls Try.prog 58 #[.slice a n cap,.agg #[.int .i64 t.kind,.int .i64 t.cls]] w fun e w'=>e=.returned (.bool (Hier.ty n t))∧Below w.heap.size w w':=by
 obtain ⟨k,c⟩:=t
 have E:Hid (Hier.ty n ⟨k,c⟩=if k=1∨k=2 then decide (c=0) else if k=3 then decide (0≤c∧c < n) else false):=rfl
 go_enter Try.func58,Try.ntmps58
 go_wp2
 all_goals go_ret
 all_goals go_tidy
 all_goals refine ⟨ret_bool ?_,Rd.byB⟩
 all_goals rw [E.out]
 all_goals simp_all
 all_goals first | rfl | (intros;omega)
theorem kept {B:Nat}{w w':World}{b o:Nat}{v:Value}(hb:Below B w w') (hlt:b < B) (h:w.cell? ⟨b,o,none⟩=some v):w'.cell? ⟨b,o,none⟩=some v:=(hb.cell (p:=⟨b,o,none⟩) hlt).trans h
theorem cls_false {n:Int}{i:Nat}{c:Cls}(h:Hier.supOk i c.sup=false∨6 < c.fields.length):Hier.cls n i c=false:=by
 unfold Hier.cls
 rcases h with h | h
 ·rw [h];rfl
 ·rw [decide_eq_false (by omega)];simp
theorem cls_false_at {n:Int}{i j:Nat}{c:Cls}(h:j < c.fields.length) (hf:Hier.ty n c.fields[j]=false):Hier.cls n i c=false:=by
 have:c.fields.all (Hier.ty n)=false:=by
  rw [List.all_eq_false];exact ⟨_,List.getElem_mem h,by rw [hf];simp⟩
 unfold Hier.cls;rw [this];simp
theorem cls_true {n:Int}{i:Nat}{c:Cls}(hs:Hier.supOk i c.sup=true) (hl:c.fields.length≤6) (hf:∀ j (h:j < c.fields.length),Hier.ty n c.fields[j]=true):Hier.cls n i c=true:=by
 unfold Hier.cls;rw [hs,decide_eq_true hl]
 simp only [Bool.true_and,List.all_eq_true]
 intro x hx
 obtain ⟨j,hj,rfl⟩:=List.getElem_of_mem hx
 exact hf j hj
theorem all_next {l:List Cls}{n:Int}{k:Nat}(hall:∀ j (h:j < l.length),j < k→Hier.cls n j l[j]=true) (hlt:k < l.length) (hc:Hier.cls n k l[k]=true):∀ j (h:j < l.length),j < k+1→Hier.cls n j l[j]=true:=fun j h hj=>by
 by_cases e:j=k
 ·subst e;exact hc
 ·exact hall j h (by omega)
theorem tys_next {l:List Ty}{n:Int}{k:Nat}(hall:∀ j (h:j < l.length),j < k→Hier.ty n l[j]=true) (hlt:k < l.length) (hc:Hier.ty n l[k]=true):∀ j (h:j < l.length),j < k+1→Hier.ty n l[j]=true:=fun j h hj=>by
 by_cases e:j=k
 ·subst e;exact hc
 ·exact hall j h (by omega)
theorem at_of {α:Type}{l:List α}{k:Nat}(h:k < l.length):∃ c,Hid (l[k]=c):=⟨_,rfl⟩
set_option maxRecDepth 100000 in
theorem may (v:Value) (l:List Cls) (w:World) (h:Cs w v l):Calls Try.prog 29 #[v] w fun e w'=>e=.returned (.bool (Hier.may l))∧Below w.heap.size w w':=by
 obtain ⟨a,cap,rfl,hlc,hcc,hel⟩:=h
 by_cases q1:l.length < 4
 ·have e1:=Lib.hid (Hier.may_false_len (l:=l) (by omega))
  go_enter Try.func29,Try.ntmps29
  go_wp2
  all_goals go_ret
  all_goals exact ⟨ret_bool e1.out.symm,Rd.byB⟩
 by_cases q2:12 < l.length
 ·have e1:=Lib.hid (Hier.may_false_len (l:=l) (by omega))
  go_enter Try.func29,Try.ntmps29
  go_wp2
  all_goals go_ret
  all_goals exact ⟨ret_bool e1.out.symm,Rd.byB⟩
 go_enter Try.func29,Try.ntmps29
 go_wp2
 go_loopw [17] (fun i wr=>∃ k:Nat,k≤l.length∧i=.int .i64 k∧Below w.heap.size w wr∧Hid (∀ j (h:j < l.length),j < k→Hier.cls l.length j l[j]=true)) (fun i _=>l.length - (intOf i).toNat)
 case atStart=>exact ⟨0,by omega,rfl,Rd.byB,fun j _ h=>absurd h (by omega)⟩
 case round =>
  obtain ⟨k,hk,rfl,hbw,hall⟩:=hrel
  by_cases hlt:k < l.length
  ·obtain ⟨b,o,rfl,hb,he⟩:=hel k hlt
   have hno:=Lib.hid (fun hc=>Hier.may_false_at (l:=l) hlt hc)
   have hyes:=Lib.hid (all_next hall.out hlt)
   obtain ⟨c,hc⟩:=at_of hlt
   rw [hc.out] at he hno hyes
   obtain ⟨c,fl⟩:=c
   obtain ⟨g1,g2,fv,g3,fa,fcap,rfl,flc,fcc,fel⟩:=he
   simp only at g1 g2 g3 flc fel
   have k1:=kept hbw hb g1
   have k2:=kept hbw hb g3
   have hbs:=hbw.size
   clear hel g1 g3
   go_wp2_with (go_at_call 58;refine (type _ _ _ _ _).mono ?_;rintro e w1 ⟨rfl,hb1⟩)
   all_goals first
    | (
           go_ret
           refine ⟨ret_bool (hno.out (cls_false ?_)).symm,Rd.byB⟩
           simp only [Hier.supOk]
           (repeat' split) <;> simp <;> omega)
    | skip
   all_goals
    have hfl:fl.length≤6:=by omega
    have hsup:Hid (Hier.supOk k c=true):=by
     show Hier.supOk k c=true
     unfold Hier.supOk
     split <;> rw [decide_eq_true_eq] <;> omega
    go_loopw [53] (fun i wr2=>∃ m:Nat,m≤fl.length∧i=.int .i64 m∧Below w.heap.size w wr2∧Hid (∀ j (h:j < fl.length),j < m→Hier.ty l.length fl[j]=true)) (fun i _=>fl.length - (intOf i).toNat)
    case atStart=>exact ⟨0,by omega,rfl,Rd.byB,fun j _ h=>absurd h (by omega)⟩
    case round =>
     obtain ⟨m,hm,rfl,hbw2,hall2⟩:=hrel
     have hbs2:=hbw2.size
     by_cases hlt2:m < fl.length
     ·obtain ⟨fb,fo,rfl,hfb,fe⟩:=fel m hlt2
      obtain ⟨f1,f2,_,_⟩:=fe
      have hyes2:=Lib.hid (tys_next hall2.out hlt2)
      have hno2:=Lib.hid (fun hf=>hno.out (cls_false_at (c:=⟨c,fl⟩) hlt2 hf))
      obtain ⟨t,ht⟩:=at_of hlt2
      rw [ht.out] at f1 f2 hyes2 hno2
      have p1:=kept hbw2 hfb f1
      have p2:=kept hbw2 hfb f2
      clear fel f1 f2
      obtain ⟨tb,htb⟩:∃ tb,Hid (Hier.ty l.length t=tb):=⟨_,rfl⟩
      cases tb
      ·go_wp2_with (go_at_call 58;refine (type _ _ _ t _).mono ?_;rw [htb.out];rintro e w1 ⟨rfl,hb1⟩)
       go_ret
       exact ⟨ret_bool (hno2.out htb.out).symm,(hbw2.alloc (by omega) _).trans (hb1.mono (by simp;omega))⟩
      ·go_wp2_with (go_at_call 58;refine (type _ _ _ t _).mono ?_;rw [htb.out];rintro e w1 ⟨rfl,hb1⟩)
       go_roundw
       case rel=>exact ⟨m+1,by omega,by go_num,(hbw2.alloc (by omega) _).trans (hb1.mono (by simp;omega)),hyes2.out htb.out⟩
       case measure=>simp [intOf];omega
     ·obtain rfl:m=fl.length:=by omega
      have hnext:=Lib.hid (hyes.out (cls_true (c:=⟨c,fl⟩) hsup.out hfl (fun j hj=>hall2.out j hj hj)))
      go_wp2
      go_roundw
      case rel=>exact ⟨k+1,by omega,by go_num,hbw2,hnext.out⟩
      case measure=>simp [intOf];omega
  ·have e1:Hid (Hier.may l=true):=(Hier.may_iff l).2 ⟨by omega,fun j h=>hall.out j h (by omega)⟩
   go_wp2
   all_goals go_ret
   all_goals exact ⟨ret_bool e1.out.symm,hbw⟩
end HierW
namespace UpW
section
variable {F:Fence}{n:Nat}{P:Program}
def Lets {β:Type}(p:Addr) (J:β→World→Prop):Prop:=∀ s W v,J s W→J s (W.setCell p v)
theorem setCell_obj {W:World}{p:Addr}{v:Value}{k:Nat}{o:Obj}(h:W.heap[k]? = some o) (hc:o.isCells=false):(W.setCell p v).heap[k]? = some o:=by
 simp only [World.setCell,Array.getElem?_modify]
 split
 ·rename_i e
  subst e
  rw [h]
  cases o <;> simp_all [Obj.isCells]
 ·exact h
def Gives {α:Type}(F:Fence) (n:Nat) (P:Program) (g:Nat) (lb:Array Value) (encs:α→Array Value) (Kp:World→World→Prop) (S Sp:List α→Prop) (box:Addr) (w:World):Prop :=
 ∀ (l:Nat) (J Jx:List α→World→Prop) (W:World),Kp w W→Lets box J→Lets box Jx →
  (∀ pre x W1,J pre W1→YieldAt F (n - 1) P l (encs x) W1 fun e W' =>
   (e=.returned (.bool true)∧J (pre++[x]) W'∧Kp W1 W')∨(e=.returned (.bool false)∧Jx (pre++[x]) W')) →
  J [] W →
  CallsIn F n P g (#[.func (.yield l) #[] #[]]++lb) W fun e W'=>(∃ v,e=.returned v)∧((∃ xs,S xs∧J xs W')∨(∃ pre,Sp pre∧Jx pre W'))
theorem range {α:Type}{g:Operand}{ps:Array Tmp}{assign body:Code}{Q:Exit→Act→World→Prop}{a:Act}{w:World}
  (hro:F.round=none) (h1:1≤n){gf:Nat}{lb:Array Value}(hg:a.eval g=.func (.func gf) #[] lb) (hFg:F.fn gf) (eg:∀ args w,(callFunc gf args).run P w=.ok (.enter gf args) w)
  {encs:α→Array Value}{Kp:World→World→Prop}{S Sp:List α→Prop}{box:Addr}(hgv:Gives F (n - 1) P gf lb encs Kp S Sp box w)
  (hKt:∀ {A B C:World},Kp A B→Kp B C→Kp A C) (hKr:Kp w w) (hKa:∀ (W:World) (o:Obj),Kp w W→Kp w (W.alloc o))
  (hKb:∀ (W:World) (l:Nat) (o o':Obj),w.heap.size≤l→W.heap[l]? = some o→o.isCells=false→o.isWalk=false→Kp W (W.putObj l o')) (hps:∀ x,(encs x).size=ps.size)
  (I:List α→World→Prop) (Ix:Code→List α→World→Prop) (hI:OwnFrom w.heap.size I) (hIx:∀ c,OwnFrom w.heap.size (Ix c)) (hIb:Lets box I) (hIxb:∀ c,Lets box (Ix c)) (h0:I [] w) (a₁:α→Act)
  (hassign:∀ (l:Nat) (x:α) (W:World) (K:Act→World→Prop),K (a₁ x) W →
   assign.wpIn (F.inRound l) (n - 1 - 1) P (Exit.then K (fun _ _ _=>False)) { tmps:=(ps.zip (encs x)).foldl (fun t (p,v)=>t.setIfInBounds p v) a.tmps,defers:=[] } W)
  (hbody:∀ (l:Nat) (pre:List α) (x:α) (W:World),I pre W→body.wpIn (F.inRound l) (n - 1 - 1) P (ownPostK Kp I Ix (pre++[x]) W) (a₁ x) W)
  (hdone:∀ (D:Nat) (xs:List α) (W:World),w.heap.size≤D→S xs→I xs W→W.heap[D]? = some (.deferred (some []))→Q .normal { a with defers:={ target:=.collected D,args:=#[] } :: a.defers } W)
  (hstop:∀ (D:Nat) (c:Code) (pre:List α) (W:World),w.heap.size≤D→Sp pre→Ix c pre W→W.heap[D]? = some (.deferred (some []))→c.wpIn F n P Q { a with defers:={ target:=.collected D,args:=#[] } :: a.defers } W) :
  (Code.rangeFunc g ps assign body).wpIn F n P Q a w:=by
 refine wpIn_rangeFunc ?_
 intro fn hfn
 rw [hro]
 obtain ⟨rec,hrec⟩:∃ rec:LoopState→Option Code→Loop,rec=fun st pe=>{ state:=st,pending:=pe,fn,tmps:=a.tmps,params:=ps,assign,body,defers:=w.heap.size }:=⟨_,rfl⟩
 obtain ⟨W1,hW1⟩:∃ W1,(w.alloc (.deferred (some []))).alloc (.loop (rec .ready none))=W1:=⟨_,rfl⟩
 have hL1:W1.heap[w.heap.size+1]? = some (.loop (rec .ready none)):=by
  rw [← hW1];have:=World.alloc_heap_new (w.alloc (.deferred (some []))) (.loop (rec .ready none));rwa [World.size_alloc] at this
 have hK1:W1.heap[w.heap.size]? = some (.deferred (some [])):=by
  rw [← hW1];exact (Below.heap_alloc _ _ _ (by simp)).trans (World.alloc_heap_new w _)
 have hI1:I [] W1:=by rw [← hW1];exact hI.alloc _ (hI.alloc _ h0)
 have hb1:Kp w W1:=by rw [← hW1];exact hKa _ _ (hKa _ _ hKr)
 refine ⟨w.heap.size+1,[{ target:=.collected w.heap.size,args:=#[] }],W1,{ target:=.fn (.func gf) lb,args:=#[.func (.yield (w.heap.size+1)) #[] #[]] },W1,gf,
  #[.func (.yield (w.heap.size+1)) #[] #[]]++lb,W1,?_,?_,?_,?_,fun _=>h1,?_⟩
 ·rw [← hW1,hrec];exact run_enterLoop_outer _ _ _ _ _
 ·simp only [resolve,hg]
  simp [go_sem]
 ·intro f' hf';simp [Target.leads] at hf';subst hf';exact hFg
 ·simp [invoke,go_sem,eg]
 ·refine (hgv (w.heap.size+1)
   (fun pre W=>I pre W∧W.heap[w.heap.size+1]? = some (.loop (rec .ready none))∧W.heap[w.heap.size]? = some (.deferred (some [])))
   (fun pre W=>∃ c,Ix c pre W∧W.heap[w.heap.size+1]? = some (.loop (rec .done (some c)))∧W.heap[w.heap.size]? = some (.deferred (some [])))
   W1 hb1
   (fun s W v hs=>⟨hIb s W v hs.1,setCell_obj hs.2.1 rfl,setCell_obj hs.2.2 rfl⟩)
   (fun s W v hs=>by
    obtain ⟨c,hc,hl,hk⟩:=hs
    exact ⟨c,hIxb c s W v hc,setCell_obj hl rfl,setCell_obj hk rfl⟩)
   ?_ ⟨hI1,hL1,hK1⟩).mono ?_
  ·rintro pre x W ⟨hi,hl,hk⟩
   have hlt:w.heap.size+1 < W.heap.size:=(Array.getElem?_eq_some_iff.1 hl).1
   have hy:=run_yield (P:=P) (args:=encs x) hl (by rw [hrec];exact hps x)
   rw [hrec] at hy
   refine ⟨fn,_,assign,body,hy,roundIn_of_wpIn hfn (hassign _ x W _ ⟨_,run_beginRound hl (by rw [hrec]),?_⟩)⟩
   have hl2:(W.putObj (w.heap.size+1) (.loop { rec .ready none with state:=.busy })).heap[w.heap.size+1]? = some (.loop { rec .ready none with state:=.busy }):=World.putObj_heap_same hlt
   have hk2:(W.putObj (w.heap.size+1) (.loop { rec .ready none with state:=.busy })).heap[w.heap.size]? = some (.deferred (some [])):=(World.putObj_heap_other (by omega)).trans hk
   have hw2:Kp W (W.putObj (w.heap.size+1) (.loop { rec .ready none with state:=.busy })):=hKb _ _ _ _ (by omega) hl rfl rfl
   refine wpIn_mono (hbody _ pre x _ (hI.putObj _ hi (by omega) hl rfl)) ?_
   have fin:∀ (jump:Option Code) (W3:World),KeepsOthers (W.putObj (w.heap.size+1) (.loop { rec .ready none with state:=.busy })) W3 →
     (Instr.endRound (w.heap.size+1) jump).run P W3=.ok (.bool jump.isNone) (W3.putObj (w.heap.size+1) (.loop (rec (if jump.isNone then .ready else .done) jump))) ∧
     W3.heap[w.heap.size+1]? = some (.loop { rec .ready none with state:=.busy }) ∧
     (W3.putObj (w.heap.size+1) (.loop (rec (if jump.isNone then .ready else .done) jump))).heap[w.heap.size+1]? = some (.loop (rec (if jump.isNone then .ready else .done) jump)) ∧
     (W3.putObj (w.heap.size+1) (.loop (rec (if jump.isNone then .ready else .done) jump))).heap[w.heap.size]? = some (.deferred (some [])):=fun jump W3 hk3=>by
    have hl3:=hk3.same _ _ hl2 rfl
    have:=run_endRound (P:=P) jump hl3
    rw [hrec] at this ⊢
    exact ⟨this,by rw [hrec] at hl3;exact hl3,World.putObj_heap_same (Array.getElem?_eq_some_iff.1 hl3).1,(World.putObj_heap_other (by omega)).trans (hk3.same _ _ hk2 rfl)⟩
   rintro e a3 W3 hp
   cases e with
   | normal =>
    obtain ⟨hk3,hkp3,hi3⟩:=hp
    obtain ⟨hr,hl3,hl4,hk4⟩:=fin none W3 hk3
    exact ⟨_,_,hr,.inl ⟨rfl,⟨hI.putObj _ hi3 (by omega) hl3 rfl,hl4,hk4⟩,hKt (hKt hw2 hkp3) (hKb _ _ _ _ (by omega) hl3 rfl rfl)⟩⟩
   | ret =>
    obtain ⟨hk3,hi3⟩:=hp
    obtain ⟨hr,hl3,hl4,hk4⟩:=fin (some .ret) W3 hk3
    exact ⟨_,_,hr,.inr ⟨rfl,.ret,(hIx _).putObj _ hi3 (by omega) hl3 rfl,hl4,hk4⟩⟩
   | exit id =>
    obtain ⟨hk3,hi3⟩:=hp
    obtain ⟨hr,hl3,hl4,hk4⟩:=fin (some (.exit id)) W3 hk3
    exact ⟨_,_,hr,.inr ⟨rfl,.exit id,(hIx _).putObj _ hi3 (by omega) hl3 rfl,hl4,hk4⟩⟩
   | goto t =>
    obtain ⟨hk3,hi3⟩:=hp
    obtain ⟨hr,hl3,hl4,hk4⟩:=fin (some (.goto t)) W3 hk3
    exact ⟨_,_,hr,.inr ⟨rfl,.goto t,(hIx _).putObj _ hi3 (by omega) hl3 rfl,hl4,hk4⟩⟩
   | panic ch=>exact hp.elim
   | outgrown=>exact hp.elim
  ·rintro e W2 ⟨⟨v,rfl⟩,(⟨xs,hS,hi,hl,hk⟩ | ⟨pre,hSp,c,hi,hl,hk⟩)⟩
   ·exact ⟨none,_,by have:=run_endLoop (P:=P) hl (by rw [hrec];simp);rw [hrec] at this;exact this,hdone _ xs _ (Nat.le_refl _) hS (hI.putObj _ hi (by omega) hl rfl) ((World.putObj_heap_other (by omega)).trans hk)⟩
   ·exact ⟨some c,_,by have:=run_endLoop (P:=P) hl (by rw [hrec];simp);rw [hrec] at this;exact this,hstop _ c pre _ (Nat.le_refl _) hSp ((hIx c).putObj _ hi (by omega) hl rfl) ((World.putObj_heap_other (by omega)).trans hk)⟩
end
end UpW
end Go.Proofs.Ytncmhenfgbcihac
