/- Parts of the proof: Ckr, Ka, Kb, Kc, Kd. -/
import Derived.Test.YtncmhenfgbcihabG14
import Derived.Test.YtncmhenfgbcihabG07
import Derived.Test.YtncmhenfgbcihabG15
import Derived.BigQuiet
import Derived.Deep.RegionLaw
import Derived.BigRegion
import Derived.StillTailTactics
set_option linter.unusedSimpArgs false
set_option linter.unusedVariables false
set_option maxHeartbeats 8000000
namespace Go.Proofs.Ytncmhenfgbcihab
open Go.RowKit
namespace Ckr
open D Num Flow
open Chk (Gd gd_of wf_flat wf_ref wf_ty ftype_ty load_wf store_len store_wf store_paired tstores tstores_len tstores_gd none_paired insAt insAt_mem nexts covers)
def rdk (s:State) (a k:Int) (K:Ty→Option State):Option State:=if loadB s.slots a.toNat k then K (loadV s.slots a.toNat k) else none
def sto (s:State) (a:Int) (x:Ty):Option State:=some ⟨Flow.store s.slots a.toNat x,s.stack,s.broken⟩
def fit1 (c:List Cls) (s:State) (a:Int) (t:Ty):Bool:=loadB s.slots a.toNat t.kind && fits c (loadV s.slots a.toNat t.kind) t
def fitk (c:List Cls) (s:State) (a:Int) (t:Ty) (K:Option State):Option State:=if fit1 c s a t then K else none
def fitAll (c:List Cls) (s:State):List Int→List Ty→Bool
 | _,[]=>true
 | xs,t :: ts=>fit1 c s (xs.headD 0) t && fitAll c s xs.tail ts
def okH (x:Ty) (k:Int):Bool:=decide (x.kind=k) || (decide (k=3) && decide (x.kind=7))
def hand (s:State) (a k:Int):Option State:=if s.stack.length=1 then (if okH (s.stack.getD 0 none_) k then sto s a (s.stack.getD 0 none_) else none) else none
def two (s:State) (i:Ins) (k:Int) (x:Ty):Option State:=rdk s i.b k fun _=>rdk s i.c k fun _=>sto s i.a x
def meRef (f:Fi) (i:Ins):Me:=Run.meAt f i.a.toNat
def does (f:Fi) (m:Me) (i:Ins) (s:State):Option State :=
 if i.op=1 then sto s i.a ⟨1,0⟩
 else if i.op=2∨i.op=24 then sto s i.a ⟨2,0⟩
 else if i.op=3 then sto s i.a ⟨7,0⟩
 else if i.op=4 then rdk s i.b i.c fun x=>sto s i.a x
 else if i.op=5 then two s i 1 ⟨1,0⟩
 else if i.op=6 then two s i 2 ⟨2,0⟩
 else if i.op=7 then rdk s i.b 1 fun _=>sto s i.a ⟨2,0⟩
 else if i.op=8 then rdk s i.b 2 fun _=>sto s i.a ⟨1,0⟩
 else if i.op=9 then two s i 2 ⟨1,0⟩
 else if i.op=11 then rdk s i.c 1 fun _=>some s
 else if i.op=12 then rdk s i.c 3 fun _=>some s
 else if i.op=21 then rdk s i.a 3 fun _=>some s
 else if i.op=23 then rdk s i.a i.b fun _=>some s
 else if i.op=13 then sto s i.a ⟨3,i.b⟩
 else if i.op=14 then fitk f.classes s i.b ⟨3,i.c⟩ (sto s i.a (Run.ftype f.classes i.c i.n))
 else if i.op=15 then fitk f.classes s i.b ⟨3,i.c⟩ (fitk f.classes s i.a (Run.ftype f.classes i.c i.n) (some s))
 else if i.op=16 then rdk s i.a 3 fun _=>sto s i.a ⟨3,i.b⟩
 else if i.op=17 then rdk s i.b 3 fun _=>sto s i.a ⟨1,0⟩
 else if i.op=18 then (if fitAll f.classes s i.args (meRef f i).params then some s else none)
 else if i.op=19 then hand s i.a i.b
 else if i.op=22 then hand s i.a 3
 else if i.op=20 then (if m.ret.kind=0 then some s else fitk f.classes s i.a m.ret (some s))
 else some s
def nexts (i:Ins) (a:Nat):List Nat :=
 if i.op=10 then [i.a.toNat] else if i.op=11∨i.op=12 then [a+1,i.a.toNat] else if i.op=20∨i.op=21 then [] else [a+1]
def goes (f:Fi) (m:Me) (a:Nat) (s:State):Option State :=
 if s.broken then none else (does f m (insAt m a) s).bind fun s'=>if (nexts (insAt m a) a).all (fun k=>decide (k < m.code.length)) then some ⟨s'.slots,[],false⟩ else none
def given (f:Fi) (m:Me) (i:Ins) (k:Nat):List Ty:=if i.op=18∧(insAt m k).op=19∧(meRef f i).ret.kind≠0 then [(meRef f i).ret] else []
def nstate (f:Fi) (m:Me) (i:Ins) (o:Option State) (k:Nat):State:=match o with
 | none=>State.bad
 | some s=>⟨s.slots,given f m i k,s.broken⟩
def hstate (m:Me) (s:State) (ok:Bool) (h:Hd):State:=if ok=false then State.bad else ⟨s.slots,if (insAt m h.go.toNat).op=22 then [⟨3,h.cls⟩] else [],false⟩
def one (f:Fi) (m:Me):One:=fun a s =>
 ((goes f m a s).isSome,((nexts (insAt m a) a).map fun k=>(k,nstate f m (insAt m a) (goes f m a s) k))++((m.handlers.filter fun h=>covers h a).map fun h=>(h.go.toNat,hstate m s (goes f m a s).isSome h)))
def start (m:Me):State:=⟨tstores (List.replicate m.regs.toNat none_) 0 m.params,[],false⟩
def run0 (f:Fi) (m:Me):Flow.Run:=lead f.classes ⟨List.replicate m.code.length none,[],false⟩ 0 (start m)
def final (f:Fi) (m:Me):Flow.Run:=fin f.classes (one f m) m.regs.toNat 1 (run0 f m)
def okMe (f:Fi) (m:Me):Bool:=!(final f m).bad
theorem rdk_some {s r:State}{a k:Int}{K:Ty→Option State}(h:rdk s a k K=some r):loadB s.slots a.toNat k=true∧K (loadV s.slots a.toNat k)=some r:=by
 unfold rdk at h
 split at h
 ·rename_i e;exact ⟨e,h⟩
 ·cases h
theorem fitk_some {c:List Cls}{s r:State}{a:Int}{t:Ty}{K:Option State}(h:fitk c s a t K=some r):fit1 c s a t=true∧K=some r:=by
 unfold fitk at h
 split at h
 ·rename_i e;exact ⟨e,h⟩
 ·cases h
theorem hand_some {s r:State}{a k:Int}(h:hand s a k=some r):s.stack.length=1∧okH (s.stack.getD 0 none_) k=true∧sto s a (s.stack.getD 0 none_)=some r:=by
 unfold hand at h
 split at h
 ·rename_i e
  split at h
  ·rename_i e2;exact ⟨e,e2,h⟩
  ·cases h
 ·cases h
section
variable {f:Fi}{m:Me}{i:Ins}{s r:State}{n nl ns:Nat}
theorem sto_gd {a:Int}{x:Ty}(h:Gd n nl ns s) (hx:Wf n x) (hk:x.kind≠5∧x.kind≠6) (ha:a.toNat < nl) (ha2:x.kind=2→a.toNat+1 < nl) (he:sto s a x=some r):Gd n nl ns r:=by
 injection he with he
 subst he;exact ⟨h.live,by simp only [store_len];exact h.len,h.few,store_wf h.slots hx _,h.stack,store_paired h.pair hk (by rw [h.len];exact ha) (fun e=>by rw [h.len];exact ha2 e)⟩
theorem load_kind {l:List Ty}{a:Nat}{k:Int}(hk:1≤k∧k≤3) (h:loadB l a k=true):(loadV l a k).kind=k∨(k=3∧(loadV l a k).kind=7):=by
 unfold loadB kd at h;unfold loadV
 by_cases h2:k=2
 ·rw [if_pos h2];left;exact h2.symm
 ·rw [if_neg h2] at h ⊢
  by_cases h3:k=3
  ·rw [if_pos h3] at h;simp only [Bool.or_eq_true,decide_eq_true_eq] at h
   rcases h with h | h
   ·left;omega
   ·right;exact ⟨h3,h⟩
  ·rw [if_neg h3] at h
   left;simpa using h
theorem ret_ty (M:Run.MeR f m) (h:m.ret.kind≠0):Hier.ty f.classes.length m.ret=true:=by
 have:=M.ret
 unfold Form.ret at this;simp only [Bool.or_eq_true,decide_eq_true_eq] at this
 rcases this with e | e
 ·exact absurd e.1 h
 ·exact e
structure Rg (m:Me) (a k:Int):Prop where
 pos:0≤a
 lo:a.toNat < m.regs.toNat
 hi:k=2→a.toNat+1 < m.regs.toNat
theorem rg_of {a k:Int}(h:Rform.reg m.regs a k=true):Rg m a k:=Rg.mk (Run.reg_iff h).1 (Run.reg_iff h).2.1 (Run.reg_iff h).2.2
structure Sd (f:Fi) (m:Me) (i:Ins):Prop where
 op:1≤i.op∧i.op≤24
 a1:i.op=1∨i.op=5∨i.op=8∨i.op=9∨i.op=17→Rg m i.a 1
 a2:i.op=2∨i.op=24∨i.op=6∨i.op=7→Rg m i.a 2
 a3:i.op=3∨i.op=13∨i.op=16∨i.op=21∨i.op=22→Rg m i.a 3
 a4:i.op=4→(1≤i.c∧i.c≤3)∧Rg m i.a i.c
 a14:i.op=14→Rg m i.a (Run.ftype f.classes i.c i.n).kind
 fld:i.op=14∨i.op=15→(0≤i.c∧i.c < f.classes.length)∧(0≤i.n∧i.n < Form.nf f.classes i.c)
 cls:i.op=13∨i.op=16→0≤i.b∧i.b < f.classes.length
 is:i.op=17→0≤i.c∧i.c < f.classes.length
 meth:i.op=18→(0≤i.a∧i.a < f.methods.length)∧i.args.length=(Run.meAt f i.a.toNat).params.length
 a19:i.op=19→(1≤i.b∧i.b≤3)∧Rg m i.a i.b
 out:i.op=23→1≤i.b∧i.b≤2
 jmp:i.op=10∨i.op=11∨i.op=12→0≤i.a∧i.a < m.code.length
 bR:i.op=4∨i.op=5∨i.op=6∨i.op=7∨i.op=8∨i.op=9∨i.op=14∨i.op=15∨i.op=17→0≤i.b∧i.b.toNat < m.regs.toNat
 cR:i.op=5∨i.op=6∨i.op=9∨i.op=11∨i.op=12→0≤i.c∧i.c.toNat < m.regs.toNat
 aR:i.op=15∨i.op=23∨(i.op=20∧m.ret.kind≠0)→0≤i.a∧i.a.toNat < m.regs.toNat
 args:i.op=18→∀ j,j < (Run.meAt f i.a.toNat).params.length→0≤i.args.getD j 0∧(i.args.getD j 0).toNat < m.regs.toNat
theorem sd_of (S:Run.FiR f) (M:Run.MeR f m) (h:Rform.ins f m i=true):Sd f m i:=by
 simp only [Rform.ins,Bool.and_eq_true] at h;obtain ⟨⟨_,hb⟩,_⟩:=h
 have hop:1≤i.op∧i.op≤24:=by
  refine Decidable.of_not_not fun q=>?_;unfold Rform.body at hb
  repeat rw [if_neg (by omega)] at hb
  cases hb
 have hfk:(Rform.fk f.classes i.c i.n)=(Run.ftype f.classes i.c i.n).kind:=rfl;have two:∀ {a k:Int},Rform.reg m.regs a k=true→0≤a∧a.toNat < m.regs.toNat:=fun h=>⟨(Run.reg_iff h).1,(Run.reg_iff h).2.1⟩;refine ⟨hop,?_,?_,?_,?_,?_,?_,?_,?_,?_,?_,?_,?_,?_,?_,?_,?_⟩
 ·rintro (q | q | q | q | q) <;> (simp [Rform.body,q,Run.rng_iff] at hb;first | exact rg_of hb.1.1 | exact rg_of hb.1)
 ·rintro (q | q | q | q) <;> (simp [Rform.body,q,Run.rng_iff] at hb;first | exact rg_of hb.1.1 | exact rg_of hb.1)
 ·rintro (q | q | q | q | q) <;> (simp [Rform.body,q,Run.rng_iff] at hb;first | exact rg_of hb.1.1 | exact rg_of hb.1)
 ·intro q;simp [Rform.body,q,Run.rng_iff] at hb;exact ⟨by omega,rg_of hb.2.1⟩
 ·intro q;simp [Rform.body,q,Run.rng_iff] at hb;exact rg_of hb.1.2
 ·rintro (q | q) <;> (simp [Rform.body,q,Run.rng_iff] at hb;exact ⟨by omega,by omega⟩)
 ·rintro (q | q) <;> (simp [Rform.body,q,Run.rng_iff] at hb;omega)
 ·intro q;simp [Rform.body,q,Run.rng_iff] at hb;omega
 ·intro q
  simp [Rform.body,q,Run.rng_iff] at hb;refine ⟨by omega,?_⟩
  have h1:=hb.1.1.1.2;rw [h1];unfold Rform.mAt Run.meAt;rw [List.getD_eq_getElem?_getD,List.getD_eq_getElem?_getD,List.getElem?_map]
  cases f.methods[i.a.toNat]? <;> rfl
 ·intro q;simp [Rform.body,q,Run.rng_iff] at hb;exact ⟨by omega,rg_of hb.1.2⟩
 ·intro q;simp [Rform.body,q,Run.rng_iff] at hb;omega
 ·rintro (q | q | q) <;> (simp [Rform.body,q,Run.rng_iff] at hb;omega)
 ·rintro (q | q | q | q | q | q | q | q | q) <;> (simp [Rform.body,q] at hb;first | exact two hb.2.2 | exact two hb.2.1 | exact two hb.1.2 | exact two hb.2)
 ·rintro (q | q | q | q | q) <;> (simp [Rform.body,q] at hb;first | exact two hb.2.2 | exact two hb.2)
 ·rintro (q | q | ⟨q,r⟩)
  ·simp [Rform.body,q] at hb;exact two hb.1.2
  ·simp [Rform.body,q] at hb;exact two hb.1.2
  ·simp [Rform.body,q,r] at hb;exact two hb.2
 ·intro q j hj
  simp [Rform.body,q] at hb;have h1:=hb.1.1.2
  have e:Rform.mAt f.methods i.a=(Run.meAt f i.a.toNat).params:=by
   unfold Rform.mAt Run.meAt;rw [List.getD_eq_getElem?_getD,List.getD_eq_getElem?_getD,List.getElem?_map]
   cases f.methods[i.a.toNat]? <;> rfl
  rw [e] at h1;unfold Rform.regsOk at h1;exact two (List.all_eq_true.1 h1 j (List.mem_range.2 hj))
theorem does_gd (S:Run.FiR f) (M:Run.MeR f m) (hi:Sd f m i) (h:Gd f.classes.length m.regs.toNat ns s) (he:does f m i s=some r):Gd f.classes.length m.regs.toNat ns r:=by
 have hsome:∀ {s:State},Gd f.classes.length m.regs.toNat ns s→some s=some r→Gd f.classes.length m.regs.toNat ns r:=fun h e=>by injection e with e;subst e;exact h
 have flat:∀ {a k k':Int},k'≠3→k'≠5→k'≠6→Rg m a k→(k'=2→k=2)→sto s a ⟨k',0⟩=some r→Gd f.classes.length m.regs.toNat ns r:=fun h3 h5 h6 g e he=>sto_gd h (wf_flat _ _ h3) ⟨h5,h6⟩ g.lo (fun q=>g.hi (e q)) he;have ref:∀ {a c:Int},Rg m a 3→(0≤c∧c < f.classes.length)→sto s a ⟨3,c⟩=some r→Gd f.classes.length m.regs.toNat ns r:=fun g hc he=>sto_gd h (wf_ref hc) ⟨by simp,by simp⟩ g.lo (fun q=>by simp at q) he
 unfold does at he
 by_cases q:i.op=1
 ·rw [if_pos q] at he;exact flat (by decide) (by decide) (by decide) (hi.a1 (by omega)) (by decide) he
 rw [if_neg q] at he;clear q
 by_cases q:i.op=2∨i.op=24
 ·rw [if_pos q] at he;exact flat (by decide) (by decide) (by decide) (hi.a2 (by omega)) (fun _=>rfl) he
 rw [if_neg q] at he;clear q
 by_cases q:i.op=3
 ·rw [if_pos q] at he;exact flat (by decide) (by decide) (by decide) (hi.a3 (by omega)) (by decide) he
 rw [if_neg q] at he;clear q
 by_cases q:i.op=4
 ·rw [if_pos q] at he;obtain ⟨e1,e2⟩:=rdk_some he;obtain ⟨k1,k2⟩:=hi.a4 q;have k3:=load_kind k1 e1;exact sto_gd h (load_wf h.slots _ _) (by omega) k2.lo (fun e=>k2.hi (by omega)) e2
 rw [if_neg q] at he;clear q
 by_cases q:i.op=5
 ·rw [if_pos q] at he;exact flat (by decide) (by decide) (by decide) (hi.a1 (by omega)) (by decide) (rdk_some (rdk_some he).2).2
 rw [if_neg q] at he;clear q
 by_cases q:i.op=6
 ·rw [if_pos q] at he;exact flat (by decide) (by decide) (by decide) (hi.a2 (by omega)) (fun _=>rfl) (rdk_some (rdk_some he).2).2
 rw [if_neg q] at he;clear q
 by_cases q:i.op=7
 ·rw [if_pos q] at he;exact flat (by decide) (by decide) (by decide) (hi.a2 (by omega)) (fun _=>rfl) (rdk_some he).2
 rw [if_neg q] at he;clear q
 by_cases q:i.op=8
 ·rw [if_pos q] at he;exact flat (by decide) (by decide) (by decide) (hi.a1 (by omega)) (by decide) (rdk_some he).2
 rw [if_neg q] at he;clear q
 by_cases q:i.op=9
 ·rw [if_pos q] at he;exact flat (by decide) (by decide) (by decide) (hi.a1 (by omega)) (by decide) (rdk_some (rdk_some he).2).2
 rw [if_neg q] at he;clear q
 by_cases q:i.op=11
 ·rw [if_pos q] at he;exact hsome h (rdk_some he).2
 rw [if_neg q] at he;clear q
 by_cases q:i.op=12
 ·rw [if_pos q] at he;exact hsome h (rdk_some he).2
 rw [if_neg q] at he;clear q
 by_cases q:i.op=21
 ·rw [if_pos q] at he;exact hsome h (rdk_some he).2
 rw [if_neg q] at he;clear q
 by_cases q:i.op=23
 ·rw [if_pos q] at he;exact hsome h (rdk_some he).2
 rw [if_neg q] at he;clear q
 by_cases q:i.op=13
 ·rw [if_pos q] at he;exact ref (hi.a3 (by omega)) (hi.cls (by omega)) he
 rw [if_neg q] at he;clear q
 by_cases q:i.op=14
 ·rw [if_pos q] at he;obtain ⟨c1,c2⟩:=hi.fld (by omega)
  obtain ⟨w,k⟩:=wf_ty (ftype_ty S.may c1 c2);have g:=hi.a14 q;exact sto_gd h w (by omega) g.lo g.hi (fitk_some he).2
 rw [if_neg q] at he;clear q
 by_cases q:i.op=15
 ·rw [if_pos q] at he;exact hsome h (fitk_some (fitk_some he).2).2
 rw [if_neg q] at he;clear q
 by_cases q:i.op=16
 ·rw [if_pos q] at he;exact ref (hi.a3 (by omega)) (hi.cls (by omega)) (rdk_some he).2
 rw [if_neg q] at he;clear q
 by_cases q:i.op=17
 ·rw [if_pos q] at he;exact flat (by decide) (by decide) (by decide) (hi.a1 (by omega)) (by decide) (rdk_some he).2
 rw [if_neg q] at he;clear q
 have hnd:∀ {k:Int},(1≤k∧k≤3)→Rg m i.a k→hand s i.a k=some r→Gd f.classes.length m.regs.toNat ns r:=fun {k} hk g he=>by
  obtain ⟨e1,e2,e3⟩:=hand_some he
  have hx:s.stack.getD 0 none_∈s.stack:=by
   rw [List.getD_eq_getElem?_getD,List.getElem?_eq_getElem (by omega)];exact List.getElem_mem _
  unfold okH at e2;simp only [Bool.or_eq_true,Bool.and_eq_true,decide_eq_true_eq] at e2;exact sto_gd h (h.stack _ hx) (by omega) g.lo (fun e=>g.hi (by omega)) e3
 by_cases q:i.op=18
 ·rw [if_pos q] at he
  split at he
  ·exact hsome h he
  ·cases he
 rw [if_neg q] at he;clear q
 by_cases q:i.op=19
 ·rw [if_pos q] at he;exact hnd (hi.a19 q).1 (hi.a19 q).2 he
 rw [if_neg q] at he;clear q
 by_cases q:i.op=22
 ·rw [if_pos q] at he;exact hnd (by decide) (hi.a3 (by omega)) he
 rw [if_neg q] at he;clear q
 by_cases q:i.op=20
 ·rw [if_pos q] at he
  split at he
  ·exact hsome h he
  ·exact hsome h (fitk_some he).2
 rw [if_neg q] at he;clear q;exact hsome h he
end
section
variable {f:Fi}{m:Me}
theorem goes_some {a:Nat}{s s':State}(h:goes f m a s=some s'):s.broken=false∧(∃ t,does f m (insAt m a) s=some t∧s'=⟨t.slots,[],false⟩)∧∀ k∈nexts (insAt m a) a,k < m.code.length:=by
 unfold goes at h
 split at h
 ·cases h
 ·rename_i hb
  cases hd:does f m (insAt m a) s with
  | none=>rw [hd] at h;cases h
  | some s1 =>
   rw [hd] at h;simp only [Option.bind_some] at h
   split at h
   ·rename_i ha
    injection h with h
    subst h;exact ⟨by simpa using hb,⟨s1,rfl,rfl⟩,fun k hk=>by simpa using List.all_eq_true.1 ha k hk⟩
   ·cases h
theorem goes_out {a:Nat}(h:m.code.length≤a) (s:State):goes f m a s=none:=by
 cases hg:goes f m a s with
 | none=>rfl
 | some s' =>
  obtain ⟨_,_,h3⟩:=goes_some hg;have hi:insAt m a=Chk.nilIns:=by unfold insAt;rw [List.getD_eq_getElem?_getD,List.getElem?_eq_none h];rfl
  rw [hi] at h3
  have:=h3 (a+1) (by simp [nexts,Chk.nilIns])
  omega
theorem given_ok (S:Run.FiR f){i:Ins}(hi:i.op=18→0≤i.a∧i.a < f.methods.length) (k:Nat):(given f m i k).length≤1∧WfL f.classes.length (given f m i k):=by
 unfold given
 split
 ·rename_i h
  refine ⟨Nat.le_refl _,fun y hy=>?_⟩
  have:y=(meRef f i).ret:=by simpa using hy
  subst this;have hk:=hi h.1;have M2:=S.mes _ (Run.meAt_mem (f:=f) (k:=i.a.toNat) (by omega))
  exact (wf_ty (ret_ty M2 h.2.2)).1
 ·exact ⟨Nat.zero_le _,fun y hy=>by cases hy⟩
theorem one_ok (S:Run.FiR f) (hm:m∈f.methods):OneOk f.classes.length m.regs.toNat 1 (one f m):=by
 have M:=S.mes m hm
 intro a s hs p hp
 unfold one at hp;simp only at hp
 rcases List.mem_append.1 hp with hp | hp
 ·obtain ⟨k,hk,rfl⟩:=List.mem_map.1 hp;simp only
  cases hg:goes f m a s with
  | none=>exact bad_ok _ _ _
  | some s' =>
   obtain ⟨h1,⟨t,h2,rfl⟩,h3⟩:=goes_some hg
   by_cases ha:a < m.code.length
   ·have hi:=sd_of S M (M.ins _ (insAt_mem ha).1);have g:=does_gd S M hi (gd_of hs h1) h2;obtain ⟨q1,q2⟩:=given_ok (m:=m) S (fun e=>(hi.meth e).1) k;exact Gd.ok ⟨rfl,g.len,q1,g.slots,q2,g.pair⟩
   ·rw [goes_out (by omega)] at hg;cases hg
 ·obtain ⟨x,hx,rfl⟩:=List.mem_map.1 hp;simp only [List.mem_filter] at hx;unfold hstate
  split
  ·exact bad_ok _ _ _
  ·rename_i hn
   have hlive:s.broken=false:=by
    cases hg:goes f m a s with
    | none=>rw [hg] at hn;exact absurd rfl hn
    | some s'=>exact (goes_some hg).1
   have g:=gd_of hs hlive;have hh:=M.hds.2 x hx.1;simp only [Form.hd,Bool.and_eq_true,Run.rng_iff] at hh;refine Gd.ok ⟨rfl,g.len,?_,g.slots,fun y hy=>?_,g.pair⟩
   ·split <;> simp
   ·split at hy
    ·have:y=⟨3,x.cls⟩:=by simpa using hy
     subst this;exact wf_ref hh.2
    ·cases hy
theorem start_gd (S:Run.FiR f) (hm:m∈f.methods):Gd f.classes.length m.regs.toNat 1 (start m):=by
 have M:=S.mes m hm;have hl:=M.regs;obtain ⟨h1,h2⟩:=tstores_gd f.classes.length m.params (List.replicate m.regs.toNat none_) 0 M.params.2 (by simp;omega) (fun x hx=>by have:=List.eq_of_mem_replicate hx;subst this;exact wf_none _) (none_paired _)
 exact ⟨rfl,by simp [start,tstores_len],Nat.zero_le _,h1,(fun x hx=>by cases hx),h2⟩
theorem run0_ok (S:Run.FiR f) (hm:m∈f.methods):RunOk f.classes.length m.regs.toNat 1 m.code.length (run0 f m):=by
 have hr:RunOk f.classes.length m.regs.toNat 1 m.code.length ⟨List.replicate m.code.length none,[],false⟩:=by
  refine ⟨by simp,fun k s hk=>?_,fun a ha=>by cases ha⟩
  simp only at hk;rw [List.getD_eq_getElem?_getD,List.getElem?_replicate] at hk
  split at hk <;> cases hk
 exact (lead_ok S.may hr (start_gd S hm).ok).1
theorem run0_is (S:Run.FiR f) (hm:m∈f.methods):run0 f m=⟨(List.replicate m.code.length none).set 0 (some (start m)),[0],false⟩:=by
 have hc:=(S.mes m hm).code;unfold run0 lead;simp only [List.length_replicate];rw [if_pos (by omega),List.getD_eq_getElem?_getD,List.getElem?_replicate,if_pos (by omega)]
 rfl
end
end Ckr
namespace Rck
open Num Rd D Mem Hpw Flow HierW FormW Sck
def brk:PanicEntry:={ v:=.iface 292 (.agg #[]),recovered:=false }
theorem mustT (w:World):Calls Try.prog 247 #[.bool true] w fun e w'=>e=.returned (.tuple #[])∧w=w':=by
 go_enter Try.func247,Try.ntmps247
 go_wp2
 go_end0
 exact ⟨rfl,rfl⟩
theorem mustF (w:World):Calls Try.prog 247 #[.bool false] w fun e w'=>e=.panicked [brk]∧w=w':=by
 go_enter Try.func247,Try.ntmps247
 go_wp2
 refine And.intro rfl ?_;exact ⟨rfl,rfl⟩
theorem kind (k:Int) (w:World):Calls Try.prog 238 #[.int .i64 k] w fun e w'=>e=.returned (.agg #[.int .i64 k,.int .i64 0])∧Below w.heap.size w w':=by
 go_enter Try.func238,Try.ntmps238
 go_wp2
 refine bodyPost_ret (v:=.agg #[.int .i64 k,.int .i64 0]) (by simp [results,Try.results238,go_sem] <;> go_simp) rfl ?_
 exact ⟨rfl,by exact Rd.byB⟩
theorem ref (c:Int) (w:World):Calls Try.prog 168 #[.int .i64 c] w fun e w'=>e=.returned (.agg #[.int .i64 3,.int .i64 c])∧Below w.heap.size w w':=by
 go_enter Try.func168,Try.ntmps168
 go_wp2
 refine bodyPost_ret (v:=.agg #[.int .i64 3,.int .i64 c]) (by simp [results,Try.results168,go_sem] <;> go_simp) rfl ?_
 exact ⟨rfl,by exact Rd.byB⟩
structure MS (E:FE) (w:World) (B0 mb:Nat) (vs vk:Value) (s:State):Prop where
 blk:Blk w mb [.pointer (some ⟨E.cb,0,none⟩),vs,vk,.bool false]
 slots:TR w B0 vs s.slots
 stack:TR w B0 vk s.stack
 lo:B0≤mb
 n1:vs.ownBlock≠some mb
 n2:vk.ownBlock≠some mb
 n3:∀ g,vs.ownBlock=some g→vk.ownBlock≠some g
 live:s.broken=false
 ck:∃ bad,Blk w E.cb (ccells E bad)
 cls:Sl 2 ECls w B0 E.vc E.f.classes
 mes:Sl 8 EMe w B0 E.vm E.f.methods
 low:E.cb < B0
 may:Hier.may E.f.classes=true
def mo (mb:Nat) (vs vk:Value) (k:Nat):Prop:=k=mb∨vs.ownBlock=some k∨vk.ownBlock=some k
theorem kpb {X:Nat→Prop}{w0 w1 w2:World}(K:Kp X w0 w1) (hb:Below w1.heap.size w1 w2):Kp X w0 w2:=K.trans (Kp.of_below (X:=fun _=>False) hb (Nat.le_refl _)) (fun _ h=>h.elim)
section
variable {E:FE}{w w':World}{B0 mb:Nat}{vs vk:Value}{s:State}
theorem MS.mbw (M:MS E w B0 mb vs vk s):mb < w.heap.size:=cell_lt (M.blk 0 (by simp)).1
theorem MS.base (M:MS E w B0 mb vs vk s):B0≤w.heap.size:=Nat.le_of_lt (Nat.lt_of_le_of_lt M.lo M.mbw)
theorem MS.mo_lo (M:MS E w B0 mb vs vk s){k:Nat}(hk:mo mb vs vk k):B0≤k∧k < w.heap.size:=by
 rcases hk with e | e | e
 ·subst e;exact ⟨M.lo,M.mbw⟩
 ·exact M.slots.lt e
 ·exact M.stack.lt e
theorem MS.kb (M:MS E w B0 mb vs vk s) (K:Kp (mo mb vs vk) w w'):Below B0 w w':=K.below M.base (fun x hx=>(M.mo_lo hx).1)
theorem MS.below (M:MS E w B0 mb vs vk s) (hb:Below w.heap.size w w'):MS E w' B0 mb vs vk s:=by
 have hb0:=hb.mono M.base;obtain ⟨bad,ck⟩:=M.ck;exact ⟨M.blk.next (X:=fun _=>False) (Kp.of_below hb (Nat.le_refl _)) (fun e=>e),M.slots.below hb,M.stack.below hb,M.lo,M.n1,M.n2,M.n3,M.live,⟨bad,ck.next (X:=fun _=>False) (Kp.of_below hb (Nat.le_refl _)) (fun e=>e)⟩,M.cls.mono mCls hb0 (Nat.le_refl _),M.mes.mono mMe hb0 (Nat.le_refl _),M.low,M.may⟩
theorem MS.cs (M:MS E w B0 mb vs vk s):Cs w E.vc E.f.classes:=M.cls.mono mCls (Below.refl _ _) M.base
theorem MS.wf (M:MS E w B0 mb vs vk s):Hier.Wf E.f.classes:=Hier.wf_of_may M.may
theorem MS.ex (M:MS E w B0 mb vs vk s):∃ x y z u,Blk w mb [x,y,z,u]:=⟨_,_,_,_,M.blk⟩
theorem MS.far (M:MS E w B0 mb vs vk s){X:Nat→Prop}(K:Kp X w w') (hX:∀ k,X k→B0≤k∧¬ mo mb vs vk k):MS E w' B0 mb vs vk s:=by
 have hbB:Below B0 w w':=K.below M.base (fun k hk=>(hX k hk).1);obtain ⟨bad,ck⟩:=M.ck;exact ⟨M.blk.next K (fun e=>(hX _ e).2 (.inl rfl)),M.slots.keep K (fun g hg e=>(hX _ e).2 (.inr (.inl hg))),M.stack.keep K (fun g hg e=>(hX _ e).2 (.inr (.inr hg))),M.lo,M.n1,M.n2,M.n3,M.live,⟨bad,fun j hj=>⟨kept hbB M.low (ck j hj).1,keptf hbB M.low (ck j hj).2⟩⟩,M.cls.mono mCls hbB (Nat.le_refl _),M.mes.mono mMe hbB (Nat.le_refl _),M.low,M.may⟩
theorem MS.setSlots (M:MS E w B0 mb vs vk s){l:List Ty}(K:Kp (fun k=>vs.ownBlock=some k) w w') (h:TR w' B0 vs l):MS E w' B0 mb vs vk ⟨l,s.stack,s.broken⟩:=by
 have hbB:Below B0 w w':=K.below M.base (fun k hk=>(M.slots.lt hk).1);obtain ⟨bad,ck⟩:=M.ck;exact ⟨M.blk.next K (fun e=>M.n1 e),h,M.stack.keep K (fun g hg e=>M.n3 g e hg),M.lo,M.n1,M.n2,M.n3,M.live,⟨bad,fun j hj=>⟨kept hbB M.low (ck j hj).1,keptf hbB M.low (ck j hj).2⟩⟩,M.cls.mono mCls hbB (Nat.le_refl _),M.mes.mono mMe hbB (Nat.le_refl _),M.low,M.may⟩
def AnsR (E:FE) (B0 mb:Nat) (vs vk:Value) (w:World) (o:Option State) (e:Ending) (w':World):Prop :=
 match o with
 | some s'=>e=.returned (.tuple #[])∧MS E w' B0 mb vs vk s'∧Kp (mo mb vs vk) w w'
 | none=>e=.panicked [brk]∧(∃ x y z u,Blk w' mb [x,y,z,u])∧Kp (mo mb vs vk) w w'
structure Gon (E:FE) (B0 mb:Nat) (vs vk:Value) (w0 w:World) (s:State):Prop where
 M:MS E w B0 mb vs vk s
 K:Kp (mo mb vs vk) w0 w
variable {w0:World}
theorem Gon.start (M:MS E w B0 mb vs vk s):Gon E B0 mb vs vk w w s:=⟨M,Kp.refl _ w⟩
theorem Gon.below (G:Gon E B0 mb vs vk w0 w s) (hb:Below w.heap.size w w'):Gon E B0 mb vs vk w0 w' s:=⟨G.M.below hb,kpb G.K hb⟩
theorem Gon.yes {o:Option State}(G:Gon E B0 mb vs vk w0 w s) (h:o=some s):AnsR E B0 mb vs vk w0 o (.returned (.tuple #[])) w:=by subst h;exact ⟨rfl,G.M,G.K⟩
theorem Gon.no {o:Option State}(G:Gon E B0 mb vs vk w0 w s) (h:o=none):AnsR E B0 mb vs vk w0 o (.panicked [brk]) w:=by subst h;exact ⟨rfl,G.M.ex,G.K⟩
theorem Gon.fin {o:Option State}{e:Ending}(G:Gon E B0 mb vs vk w0 w s) (A:AnsR E B0 mb vs vk w o e w'):AnsR E B0 mb vs vk w0 o e w':=by
 cases o with
 | none=>exact ⟨A.1,A.2.1,G.K.trans A.2.2 (fun y h=>.inl h)⟩
 | some s'=>exact ⟨A.1,A.2.1,G.K.trans A.2.2 (fun y h=>.inl h)⟩
theorem AnsR.cases {o:Option State}{e:Ending}(A:AnsR E B0 mb vs vk w o e w'):(∃ s',o=some s'∧e=.returned (.tuple #[]))∨(o=none∧e=.panicked [brk]):=by
 cases o with
 | none=>exact .inr ⟨rfl,A.1⟩
 | some s'=>exact .inl ⟨s',rfl,A.1⟩
theorem AnsR.kp {o:Option State}{e:Ending}(A:AnsR E B0 mb vs vk w o e w'):Kp (mo mb vs vk) w w':=by
 cases o with
 | none=>exact A.2.2
 | some s'=>exact A.2.2
theorem sto (M:MS E w B0 mb vs vk s) (P:Paired s.slots) (hbig:s.slots.length≤1000) (a:Nat) (x:Ty) (hx:TOk x) (ha:a < s.slots.length) (ha2:x.kind=2→a+1 < s.slots.length) :
  Calls Try.prog 91 #[.pointer (some ⟨mb,1,none⟩),.int .i64 a,.agg #[.int .i64 x.kind,.int .i64 x.cls]] w fun e w'=>e=.returned (.tuple #[])∧Gon E B0 mb vs vk w w' ⟨Flow.store s.slots a x,s.stack,s.broken⟩:=by
 have d1:=(M.blk 1 (by simp)).1
 refine (Sck.store (b:=mb) (o:=1) d1 M.slots M.n1 a x hx ha ha2 P (by omega)).mono ?_
 rintro e w2 ⟨rfl,T,K⟩;exact ⟨rfl,M.setSlots K T,K.mono (fun k h=>.inr (.inl h))⟩
end
end Rck
namespace Rck
open Num Rd D Mem Hpw Flow HierW FormW Sck
section
variable {E:FE}{w w':World}{B0 mb:Nat}{vs vk:Value}{s:State}
theorem readT (M:MS E w B0 mb vs vk s) (P:Paired s.slots) (hbig:s.slots.length≤1000) (a:Nat) (k:Int) (ha:a < s.slots.length){x:Ty}(hx:Hid (loadV s.slots a k=x)) (hp:Hid (loadB s.slots a k=true)) :
  Calls Try.prog 239 #[.pointer (some ⟨mb,0,none⟩),.int .i64 a,.int .i64 k] w fun e w'=>e=.returned (.agg #[.int .i64 x.kind,.int .i64 x.cls])∧Below w.heap.size w w':=by
 have d1:=(M.blk 1 (by simp)).1
 have hmb:=M.mbw;have hmb1:mb < w.heap.size+1:=by omega
 have HM:=Lib.hid M;simp only [List.getElem_cons_zero,List.getElem_cons_succ] at d1;clear M;obtain ⟨xk,xc⟩:=x
 go_enter Try.func239,Try.ntmps239
 go_wp2_with (first | (go_at_call 230;refine (Sck.load (b:=mb) (o:=1) (l:=s.slots) (vs:=vs) (base:=B0) (by go_simp) ((HM.out.below (by exact Rd.byB)).slots) a k ha P (by omega)).mono ?_;rintro e w2 ⟨rfl,hb2⟩;rw [hx.out,hp.out];have c6:w2.cell? ⟨w.heap.size,0,none⟩=some (.int .i64 0):=kept hb2 (by simp) (by go_simp);have c7:w2.cell? ⟨w.heap.size,1,none⟩=some (.int .i64 0):=kept hb2 (by simp) (by go_simp);have f6:w2.frozen? ⟨w.heap.size,0,none⟩=false:=keptf hb2 (by simp) (by go_simp);have f7:w2.frozen? ⟨w.heap.size,1,none⟩=false:=keptf hb2 (by simp) (by go_simp);have l6:=cell_lt c6) | (go_at_call 247;refine (mustT _).mono ?_;rintro e w3 ⟨rfl,rfl⟩))
 refine bodyPost_ret (v:=.agg #[.int .i64 xk,.int .i64 xc]) (by simp [results,Try.results239,go_sem] <;> go_simp) rfl ?_
 have hbw:Below w.heap.size w w2:=Below.trans Rd.byB (hb2.mono Rd.byL);exact ⟨rfl,by exact Rd.byB⟩
theorem readF (M:MS E w B0 mb vs vk s) (P:Paired s.slots) (hbig:s.slots.length≤1000) (a:Nat) (k:Int) (ha:a < s.slots.length) (hp:Hid (loadB s.slots a k=false)) :
  Calls Try.prog 239 #[.pointer (some ⟨mb,0,none⟩),.int .i64 a,.int .i64 k] w fun e w'=>e=.panicked [brk]∧Below w.heap.size w w':=by
 have d1:=(M.blk 1 (by simp)).1
 have hmb:=M.mbw;have hmb1:mb < w.heap.size+1:=by omega
 have HM:=Lib.hid M;simp only [List.getElem_cons_zero,List.getElem_cons_succ] at d1;clear M;obtain ⟨⟨xk,xc⟩,hx⟩:∃ x,Hid (loadV s.slots a k=x):=⟨_,Lib.hid rfl⟩
 go_enter Try.func239,Try.ntmps239
 go_wp2_with (first | (go_at_call 230;refine (Sck.load (b:=mb) (o:=1) (l:=s.slots) (vs:=vs) (base:=B0) (by go_simp) ((HM.out.below (by exact Rd.byB)).slots) a k ha P (by omega)).mono ?_;rintro e w2 ⟨rfl,hb2⟩;rw [hx.out,hp.out];have hl2:=hb2.size) | (go_at_call 247;refine (mustF _).mono ?_;rintro e w3 ⟨rfl,rfl⟩))
 refine And.intro rfl ?_;have hbw:Below w.heap.size w w2:=Below.trans Rd.byB (hb2.mono Rd.byL);have hsw:=hbw.size;exact ⟨rfl,by exact Rd.byB⟩
set_option maxRecDepth 100000 in
theorem fitsF (M:MS E w B0 mb vs vk s) (P:Paired s.slots) (hbig:s.slots.length≤1000) (a:Nat) (t:Ty) (ha:a < s.slots.length) (hp:Hid (loadB s.slots a t.kind=false)) :
  Calls Try.prog 248 #[.pointer (some ⟨mb,0,none⟩),.int .i64 a,.agg #[.int .i64 t.kind,.int .i64 t.cls]] w fun e w'=>e=.panicked [brk]∧Below w.heap.size w w':=by
 have c0:=(M.blk 0 (by simp)).1
 simp only [List.getElem_cons_zero,List.getElem_cons_succ] at c0;have hmb:=M.mbw;have hmb1:mb < w.heap.size+1:=by omega
 obtain ⟨bad,hck⟩:=M.ck;have ck1:=(hck 1 (by simp [ccells,meV])).1
 simp [ccells,meV] at ck1;have hcb:=cell_lt ck1;have hcb1:E.cb < w.heap.size+1:=by omega
 have HM:=Lib.hid M;have hB0:=M.base;obtain ⟨ca,ccap,hvc,_⟩:=M.cls;have HC:=Lib.hid M.cs;have hwf:=M.wf;rw [hvc] at ck1;obtain ⟨tk,tc⟩:=t;clear hck M
 go_enter Try.func248,Try.ntmps248
 go_wp2_with fail
 obtain ⟨W,hW⟩:∃ W,W=w.alloc (.cells #[.int .i64 tk,.int .i64 tc] 51):=⟨_,rfl⟩;have d0:W.cell? ⟨mb,0,none⟩=some (.pointer (some ⟨E.cb,0,none⟩)):=by rw [hW];go_simp
 have d1:W.cell? ⟨E.cb,1,none⟩=some (.slice ca E.f.classes.length ccap):=by rw [hW];go_simp
 have b0:W.cell? ⟨w.heap.size,0,none⟩=some (.int .i64 tk):=by rw [hW];go_simp
 have b1:W.cell? ⟨w.heap.size,1,none⟩=some (.int .i64 tc):=by rw [hW];go_simp
 have hbW:Below w.heap.size w W:=by rw [hW];exact Rd.byB
 have A:=Lib.hid (HM.out.below hbW);have hsW:=hbW.size;rw [← hW];clear hW;refine Drawn.hd (fun w'=>(w'.cell? ⟨mb,0,none⟩=some (.pointer (some ⟨E.cb,0,none⟩))∧w'.cell? ⟨E.cb,1,none⟩=some (.slice ca E.f.classes.length ccap))∧w'.cell? ⟨w.heap.size,0,none⟩=some (.int .i64 tk)∧w'.cell? ⟨w.heap.size,1,none⟩=some (.int .i64 tc)) (hS:=by (try dsimp only);exact ⟨⟨d0,d1⟩,b0,b1⟩) (h:=fun hHeld=>?_)
 refine dT 0 6 ?_;refine dT 1 7 ?_;refine dT 2 8 ?_;refine dT 3 9 ?_;refine dT 4 10 ?_;refine dT 5 11 ?_;refine dT 6 12 ?_;refine dT 7 13 ?_;refine dT 8 14 ?_;refine dT 9 15 ?_;refine dT 10 16 ?_;refine dT 11 17 ?_;refine dT 13 19 ?_;refine Drawn.cl 12 (fun K hK=>?_);go_simp
 go_at_call 239
 refine (readF (A.out.below (by exact Rd.byB)) P hbig a tk ha hp).mono ?_
 rintro e w2 ⟨rfl,hb2⟩;refine And.intro rfl ?_;exact ⟨rfl,hbW.trans (Below.trans Rd.byB (hb2.mono (by have:=hbW.size;simp;omega)))⟩
set_option maxRecDepth 100000 in
theorem fitsT (M:MS E w B0 mb vs vk s) (P:Paired s.slots) (hbig:s.slots.length≤1000) (a:Nat) (t:Ty) (ha:a < s.slots.length) (hp:Hid (loadB s.slots a t.kind=true)){q:Bool}(hq:Hid (Flow.fits E.f.classes (loadV s.slots a t.kind) t=q)) :
  Calls Try.prog 248 #[.pointer (some ⟨mb,0,none⟩),.int .i64 a,.agg #[.int .i64 t.kind,.int .i64 t.cls]] w fun e w'=>e=(if q=true then .returned (.tuple #[]) else .panicked [brk])∧Below w.heap.size w w':=by
 obtain ⟨⟨xk,xc⟩,hx⟩:∃ x,Hid (loadV s.slots a t.kind=x):=⟨_,Lib.hid rfl⟩;rw [hx.out] at hq;have c0:=(M.blk 0 (by simp)).1
 simp only [List.getElem_cons_zero,List.getElem_cons_succ] at c0;have hmb:=M.mbw;have hmb1:mb < w.heap.size+1:=by omega
 obtain ⟨bad,hck⟩:=M.ck;have ck1:=(hck 1 (by simp [ccells,meV])).1
 simp [ccells,meV] at ck1;have hcb:=cell_lt ck1;have hcb1:E.cb < w.heap.size+1:=by omega
 have HM:=Lib.hid M;have hB0:=M.base;obtain ⟨ca,ccap,hvc,_⟩:=M.cls;have HC:=Lib.hid M.cs;have hwf:=M.wf;rw [hvc] at ck1;obtain ⟨tk,tc⟩:=t;clear hck M
 go_enter Try.func248,Try.ntmps248
 go_wp2_with fail
 obtain ⟨W,hW⟩:∃ W,W=w.alloc (.cells #[.int .i64 tk,.int .i64 tc] 51):=⟨_,rfl⟩;have d0:W.cell? ⟨mb,0,none⟩=some (.pointer (some ⟨E.cb,0,none⟩)):=by rw [hW];go_simp
 have d1:W.cell? ⟨E.cb,1,none⟩=some (.slice ca E.f.classes.length ccap):=by rw [hW];go_simp
 have b0:W.cell? ⟨w.heap.size,0,none⟩=some (.int .i64 tk):=by rw [hW];go_simp
 have b1:W.cell? ⟨w.heap.size,1,none⟩=some (.int .i64 tc):=by rw [hW];go_simp
 have hbW:Below w.heap.size w W:=by rw [hW];exact Rd.byB
 have A:=Lib.hid (HM.out.below hbW);have hsW:=hbW.size;rw [← hW];clear hW;refine Drawn.hd (fun w'=>(w'.cell? ⟨mb,0,none⟩=some (.pointer (some ⟨E.cb,0,none⟩))∧w'.cell? ⟨E.cb,1,none⟩=some (.slice ca E.f.classes.length ccap))∧w'.cell? ⟨w.heap.size,0,none⟩=some (.int .i64 tk)∧w'.cell? ⟨w.heap.size,1,none⟩=some (.int .i64 tc)) (hS:=by (try dsimp only);exact ⟨⟨d0,d1⟩,b0,b1⟩) (h:=fun hHeld=>?_)
 refine dT 0 6 ?_;refine dT 1 7 ?_;refine dT 2 8 ?_;refine dT 3 9 ?_;refine dT 4 10 ?_;refine dT 5 11 ?_;refine dT 6 12 ?_;refine dT 7 13 ?_;refine dT 8 14 ?_;refine dT 9 15 ?_;refine dT 10 16 ?_;refine dT 11 17 ?_;refine dT 13 19 ?_;refine Drawn.cl 12 (fun K hK=>?_);go_simp
 go_at_call 239
 refine (readT (A.out.below (by exact Rd.byB)) P hbig a tk ha hx hp).mono ?_
 rintro e w2 ⟨rfl,hb2⟩;have hb2W:Below W.heap.size W w2:=Below.trans (by exact Rd.byB) (hb2.mono Rd.byL)
 have e0:=kept hb2W (cell_lt d0) d0;have e1:=kept hb2W (cell_lt d1) d1;have e2:=kept hb2W (cell_lt b0) b0;have e3:=kept hb2W (cell_lt b1) b1;have C2:=(A.out.below hb2W).cs;have hb2w:Below w.heap.size w w2:=hbW.trans (hb2W.mono hbW.size)
 go_wp2_with fail
 refine Drawn.bk hK (hS:=by (try dsimp only);exact ⟨⟨e0,e1⟩,e2,e3⟩) (h:=fun hHeld=>?_)
 clear hK K;refine Drawn.cl 14 (fun K hK=>?_);go_simp
 go_at_call 233
 rw [hvc] at C2;refine (Sck.fits C2 hwf ⟨xk,xc⟩ ⟨tk,tc⟩).mono ?_;rintro e w3 ⟨rfl,hb3⟩;rw [hq.out];have i0:=kept hb3 (cell_lt e0) e0;have i1:=kept hb3 (cell_lt e1) e1;have i2:=kept hb3 (cell_lt e2) e2;have i3:=kept hb3 (cell_lt e3) e3;have hb3w:Below w.heap.size w w3:=hb2w.trans (hb3.mono hb2w.size)
 go_wp2_with fail
 refine Drawn.bk hK (hS:=by (try dsimp only);exact ⟨⟨i0,i1⟩,i2,i3⟩) (h:=fun hHeld=>?_)
 clear hK K;refine Drawn.cl 15 (fun K hK=>?_);go_simp
 cases q
 ·refine (mustF _).mono ?_;rintro e w5 ⟨rfl,rfl⟩;refine And.intro rfl ?_;exact ⟨rfl,hb3w⟩
 ·refine (mustT _).mono ?_;rintro e w5 ⟨rfl,rfl⟩
  go_wp2_with fail
  refine Drawn.bk hK (hS:=by (try dsimp only);exact ⟨⟨i0,i1⟩,i2,i3⟩) (h:=fun hHeld=>?_)
  clear hK K;refine dN ?_
  go_wp2
  go_end0
  exact ⟨rfl,hb3w⟩
theorem fits1 (M:MS E w B0 mb vs vk s) (P:Paired s.slots) (hbig:s.slots.length≤1000) (a:Nat) (t:Ty) (ha:a < s.slots.length){q:Bool}(hq:Hid (Ckr.fit1 E.f.classes s a t=q)) :
  Calls Try.prog 248 #[.pointer (some ⟨mb,0,none⟩),.int .i64 a,.agg #[.int .i64 t.kind,.int .i64 t.cls]] w fun e w'=>e=(if q=true then .returned (.tuple #[]) else .panicked [brk])∧Below w.heap.size w w':=by
 have hq':=hq.out;unfold Ckr.fit1 at hq';rw [Int.toNat_natCast] at hq'
 cases hp:loadB s.slots a t.kind
 ·rw [hp] at hq';subst hq';exact fitsF M P hbig a t ha hp
 ·rw [hp,Bool.true_and] at hq';exact fitsT M P hbig a t ha hp hq'
end
end Rck
namespace Rck
open Num Rd D Mem Hpw Flow HierW FormW Sck
section
variable {E:FE}{w w' w0:World}{B0 mb:Nat}{vs vk:Value}{s:State}
theorem rdk_t {a:Nat}{k:Int}{K:Ty→Option State}(h:loadB s.slots a k=true):Ckr.rdk s (a:Int) k K=K (loadV s.slots a k):=if_pos h
theorem rdk_f {a:Nat}{k:Int}{K:Ty→Option State}(h:loadB s.slots a k=false):Ckr.rdk s (a:Int) k K=none:=if_neg (by rw [Int.toNat_natCast,h];simp)
theorem fitk_t {c:List Cls}{a:Nat}{t:Ty}{K:Option State}(h:Ckr.fit1 c s a t=true):Ckr.fitk c s a t K=K:=if_pos h
theorem fitk_f {c:List Cls}{a:Nat}{t:Ty}{K:Option State}(h:Ckr.fit1 c s a t=false):Ckr.fitk c s a t K=none:=if_neg (by rw [h];simp)
theorem Gon.step {s':State}(G:Gon E B0 mb vs vk w0 w s) (G':Gon E B0 mb vs vk w w' s'):Gon E B0 mb vs vk w0 w' s':=⟨G'.M,G.K.trans G'.K (fun y h=>.inl h)⟩
theorem tok (k c:Int) (h1:Ok k) (h2:Ok c):TOk ⟨k,c⟩:=⟨h1,h2⟩
theorem tok0 (k:Int) (h:0≤k∧k≤9):TOk ⟨k,0⟩:=⟨by unfold Ok;simp only;omega,by unfold Ok;simp only;omega⟩
theorem load_ok (M:MS E w B0 mb vs vk s) (a:Nat) (k:Int):TOk (loadV s.slots a k):=by
 unfold loadV
 split
 ·exact tok0 2 (by decide)
 ·exact M.slots.2.getD a
set_option maxRecDepth 100000 in
theorem op1 (M:MS E w B0 mb vs vk s) (P:Paired s.slots) (hbig:s.slots.length≤1000){o:Option State}(ka:Nat) (ib ic in_:Int) (hka:ka < s.slots.length) (ar:Option Addr) (n cap:Nat) (ho:Hid (o=Ckr.sto s (ka:Int) ⟨1,0⟩)):Calls Try.prog 208 #[.pointer (some ⟨mb,0,none⟩),.agg #[.int .i64 1,.int .i64 ka,.int .i64 ib,.int .i64 ic,.int .i64 in_,.slice ar n cap]] w (AnsR E B0 mb vs vk w o):=by
 have G0:=Lib.hid (Gon.start M);have hmb:=M.mbw;have nbx:¬ mo mb vs vk w.heap.size:=fun hk=>by have:=(M.mo_lo hk).2;omega
 clear M
 go_enter Try.func208,Try.ntmps208
 go_wp2_with fail
 obtain ⟨W,hW⟩:∃ W,W=w.alloc (.cells #[.int .i64 1,.int .i64 ka,.int .i64 ib,.int .i64 ic,.int .i64 in_,.slice ar n cap] 63):=⟨_,rfl⟩;have hbW:Below w.heap.size w W:=by rw [hW];exact Rd.byB
 have hsW:W.heap.size=w.heap.size+1:=by rw [hW];simp
 have b1:W.cell? ⟨w.heap.size,1,none⟩=some (.int .i64 ka):=by rw [hW];go_simp
 replace G0:=Lib.hid (G0.out.below hbW);rw [← hW];clear hW
 go_wp2_with fail
 refine Drawn.hd (fun w'=>w'.cell? ⟨w.heap.size,1,none⟩=some (.int .i64 ka)) (hS:=by (try dsimp only);exact b1) (h:=fun hHeld=>?_)
 refine dT 0 11 ?_;refine dT 1 12 ?_;refine dT 2 13 ?_;refine dT 3 14 ?_;refine dT 4 15 ?_;refine Drawn.cl 5 (fun K hK=>?_);go_simp
 go_at_call 238
 refine (kind _ _).mono ?_;rintro e wk ⟨rfl,hbk⟩;have hbkW:Below W.heap.size W wk:=Below.trans (by exact Rd.byB) (hbk.mono Rd.byL)
 replace G0:=Lib.hid (G0.out.below hbkW);replace b1:=kept hbkW (cell_lt b1) b1
 go_wp2_with fail
 refine Drawn.bk hK (hS:=by (try dsimp only);exact b1) (h:=fun hHeld=>?_)
 clear hK K;refine Drawn.cl 6 (fun K hK=>?_);go_simp
 go_at_call 91
 refine (sto G0.out.M P hbig ka ⟨1,0⟩ (tok0 1 (by decide)) hka (fun e=>by simp at e)).mono ?_
 rintro e w3 ⟨rfl,G3⟩;replace b1:=G3.K.cell b1 nbx;have G4:=Lib.hid (G0.out.step G3);clear G3
 go_wp2_with fail
 refine Drawn.bk hK (hS:=by (try dsimp only);exact b1) (h:=fun hHeld=>?_)
 clear hK K;refine dN ?_
 go_wp2
 first | go_end0 | ((try simp only [Exit.inBlock,Exit.then]);refine bodyPost_ret (results_none rfl _ _ _) rfl ?_)
 exact G4.out.yes ho.out
set_option maxRecDepth 100000 in
theorem op2 (M:MS E w B0 mb vs vk s) (P:Paired s.slots) (hbig:s.slots.length≤1000){o:Option State}(ka:Nat) (ib ic in_:Int) (hka:ka < s.slots.length) (hka2:ka+1 < s.slots.length) (ar:Option Addr) (n cap:Nat) (ho:Hid (o=Ckr.sto s (ka:Int) ⟨2,0⟩)):Calls Try.prog 208 #[.pointer (some ⟨mb,0,none⟩),.agg #[.int .i64 2,.int .i64 ka,.int .i64 ib,.int .i64 ic,.int .i64 in_,.slice ar n cap]] w (AnsR E B0 mb vs vk w o):=by
 have G0:=Lib.hid (Gon.start M);have hmb:=M.mbw;have nbx:¬ mo mb vs vk w.heap.size:=fun hk=>by have:=(M.mo_lo hk).2;omega
 clear M
 go_enter Try.func208,Try.ntmps208
 go_wp2_with fail
 obtain ⟨W,hW⟩:∃ W,W=w.alloc (.cells #[.int .i64 2,.int .i64 ka,.int .i64 ib,.int .i64 ic,.int .i64 in_,.slice ar n cap] 63):=⟨_,rfl⟩;have hbW:Below w.heap.size w W:=by rw [hW];exact Rd.byB
 have hsW:W.heap.size=w.heap.size+1:=by rw [hW];simp
 have b1:W.cell? ⟨w.heap.size,1,none⟩=some (.int .i64 ka):=by rw [hW];go_simp
 replace G0:=Lib.hid (G0.out.below hbW);rw [← hW];clear hW
 go_wp2_with fail
 refine Drawn.hd (fun w'=>w'.cell? ⟨w.heap.size,1,none⟩=some (.int .i64 ka)) (hS:=by (try dsimp only);exact b1) (h:=fun hHeld=>?_)
 refine dT 0 21 ?_;refine dT 1 22 ?_;refine dT 2 23 ?_;refine dT 3 24 ?_;refine dT 4 25 ?_;refine Drawn.cl 5 (fun K hK=>?_);go_simp
 go_at_call 238
 refine (kind _ _).mono ?_;rintro e wk ⟨rfl,hbk⟩;have hbkW:Below W.heap.size W wk:=Below.trans (by exact Rd.byB) (hbk.mono Rd.byL)
 replace G0:=Lib.hid (G0.out.below hbkW);replace b1:=kept hbkW (cell_lt b1) b1
 go_wp2_with fail
 refine Drawn.bk hK (hS:=by (try dsimp only);exact b1) (h:=fun hHeld=>?_)
 clear hK K;refine Drawn.cl 6 (fun K hK=>?_);go_simp
 go_at_call 91
 refine (sto G0.out.M P hbig ka ⟨2,0⟩ (tok0 2 (by decide)) hka (fun _=>hka2)).mono ?_
 rintro e w3 ⟨rfl,G3⟩;replace b1:=G3.K.cell b1 nbx;have G4:=Lib.hid (G0.out.step G3);clear G3
 go_wp2_with fail
 refine Drawn.bk hK (hS:=by (try dsimp only);exact b1) (h:=fun hHeld=>?_)
 clear hK K;refine dN ?_
 go_wp2
 first | go_end0 | ((try simp only [Exit.inBlock,Exit.then]);refine bodyPost_ret (results_none rfl _ _ _) rfl ?_)
 exact G4.out.yes ho.out
set_option maxRecDepth 100000 in
theorem op24 (M:MS E w B0 mb vs vk s) (P:Paired s.slots) (hbig:s.slots.length≤1000){o:Option State}(ka:Nat) (ib ic in_:Int) (hka:ka < s.slots.length) (hka2:ka+1 < s.slots.length) (ar:Option Addr) (n cap:Nat) (ho:Hid (o=Ckr.sto s (ka:Int) ⟨2,0⟩)):Calls Try.prog 208 #[.pointer (some ⟨mb,0,none⟩),.agg #[.int .i64 24,.int .i64 ka,.int .i64 ib,.int .i64 ic,.int .i64 in_,.slice ar n cap]] w (AnsR E B0 mb vs vk w o):=by
 have G0:=Lib.hid (Gon.start M);have hmb:=M.mbw;have nbx:¬ mo mb vs vk w.heap.size:=fun hk=>by have:=(M.mo_lo hk).2;omega
 clear M
 go_enter Try.func208,Try.ntmps208
 go_wp2_with fail
 obtain ⟨W,hW⟩:∃ W,W=w.alloc (.cells #[.int .i64 24,.int .i64 ka,.int .i64 ib,.int .i64 ic,.int .i64 in_,.slice ar n cap] 63):=⟨_,rfl⟩;have hbW:Below w.heap.size w W:=by rw [hW];exact Rd.byB
 have hsW:W.heap.size=w.heap.size+1:=by rw [hW];simp
 have b1:W.cell? ⟨w.heap.size,1,none⟩=some (.int .i64 ka):=by rw [hW];go_simp
 replace G0:=Lib.hid (G0.out.below hbW);rw [← hW];clear hW
 go_wp2_with fail
 refine Drawn.hd (fun w'=>w'.cell? ⟨w.heap.size,1,none⟩=some (.int .i64 ka)) (hS:=by (try dsimp only);exact b1) (h:=fun hHeld=>?_)
 refine dT 0 21 ?_;refine dT 1 22 ?_;refine dT 2 23 ?_;refine dT 3 24 ?_;refine dT 4 25 ?_;refine Drawn.cl 5 (fun K hK=>?_);go_simp
 go_at_call 238
 refine (kind _ _).mono ?_;rintro e wk ⟨rfl,hbk⟩;have hbkW:Below W.heap.size W wk:=Below.trans (by exact Rd.byB) (hbk.mono Rd.byL)
 replace G0:=Lib.hid (G0.out.below hbkW);replace b1:=kept hbkW (cell_lt b1) b1
 go_wp2_with fail
 refine Drawn.bk hK (hS:=by (try dsimp only);exact b1) (h:=fun hHeld=>?_)
 clear hK K;refine Drawn.cl 6 (fun K hK=>?_);go_simp
 go_at_call 91
 refine (sto G0.out.M P hbig ka ⟨2,0⟩ (tok0 2 (by decide)) hka (fun _=>hka2)).mono ?_
 rintro e w3 ⟨rfl,G3⟩;replace b1:=G3.K.cell b1 nbx;have G4:=Lib.hid (G0.out.step G3);clear G3
 go_wp2_with fail
 refine Drawn.bk hK (hS:=by (try dsimp only);exact b1) (h:=fun hHeld=>?_)
 clear hK K;refine dN ?_
 go_wp2
 first | go_end0 | ((try simp only [Exit.inBlock,Exit.then]);refine bodyPost_ret (results_none rfl _ _ _) rfl ?_)
 exact G4.out.yes ho.out
set_option maxRecDepth 100000 in
theorem op3 (M:MS E w B0 mb vs vk s) (P:Paired s.slots) (hbig:s.slots.length≤1000){o:Option State}(ka:Nat) (ib ic in_:Int) (hka:ka < s.slots.length) (ar:Option Addr) (n cap:Nat) (ho:Hid (o=Ckr.sto s (ka:Int) ⟨7,0⟩)):Calls Try.prog 208 #[.pointer (some ⟨mb,0,none⟩),.agg #[.int .i64 3,.int .i64 ka,.int .i64 ib,.int .i64 ic,.int .i64 in_,.slice ar n cap]] w (AnsR E B0 mb vs vk w o):=by
 have G0:=Lib.hid (Gon.start M);have hmb:=M.mbw;have nbx:¬ mo mb vs vk w.heap.size:=fun hk=>by have:=(M.mo_lo hk).2;omega
 clear M
 go_enter Try.func208,Try.ntmps208
 go_wp2_with fail
 obtain ⟨W,hW⟩:∃ W,W=w.alloc (.cells #[.int .i64 3,.int .i64 ka,.int .i64 ib,.int .i64 ic,.int .i64 in_,.slice ar n cap] 63):=⟨_,rfl⟩;have hbW:Below w.heap.size w W:=by rw [hW];exact Rd.byB
 have hsW:W.heap.size=w.heap.size+1:=by rw [hW];simp
 have b1:W.cell? ⟨w.heap.size,1,none⟩=some (.int .i64 ka):=by rw [hW];go_simp
 replace G0:=Lib.hid (G0.out.below hbW);rw [← hW];clear hW
 go_wp2_with fail
 refine Drawn.hd (fun w'=>w'.cell? ⟨w.heap.size,1,none⟩=some (.int .i64 ka)) (hS:=by (try dsimp only);exact b1) (h:=fun hHeld=>?_)
 refine dT 0 30 ?_;refine dT 1 31 ?_;refine dT 2 32 ?_;refine dT 3 33 ?_;refine dT 4 34 ?_;refine Drawn.cl 5 (fun K hK=>?_);go_simp
 go_at_call 238
 refine (kind _ _).mono ?_;rintro e wk ⟨rfl,hbk⟩;have hbkW:Below W.heap.size W wk:=Below.trans (by exact Rd.byB) (hbk.mono Rd.byL)
 replace G0:=Lib.hid (G0.out.below hbkW);replace b1:=kept hbkW (cell_lt b1) b1
 go_wp2_with fail
 refine Drawn.bk hK (hS:=by (try dsimp only);exact b1) (h:=fun hHeld=>?_)
 clear hK K;refine Drawn.cl 6 (fun K hK=>?_);go_simp
 go_at_call 91
 refine (sto G0.out.M P hbig ka ⟨7,0⟩ (tok0 7 (by decide)) hka (fun e=>by simp at e)).mono ?_
 rintro e w3 ⟨rfl,G3⟩;replace b1:=G3.K.cell b1 nbx;have G4:=Lib.hid (G0.out.step G3);clear G3
 go_wp2_with fail
 refine Drawn.bk hK (hS:=by (try dsimp only);exact b1) (h:=fun hHeld=>?_)
 clear hK K;refine dN ?_
 go_wp2
 first | go_end0 | ((try simp only [Exit.inBlock,Exit.then]);refine bodyPost_ret (results_none rfl _ _ _) rfl ?_)
 exact G4.out.yes ho.out
set_option maxRecDepth 100000 in
theorem op5 (M:MS E w B0 mb vs vk s) (P:Paired s.slots) (hbig:s.slots.length≤1000){o:Option State}(ka kb kc:Nat) (in_:Int) (hka:ka < s.slots.length) (hkb:kb < s.slots.length) (hkc:kc < s.slots.length) (ar:Option Addr) (n cap:Nat) (ho:Hid (o=Ckr.rdk s (kb:Int) 1 fun _=>Ckr.rdk s (kc:Int) 1 fun _=>Ckr.sto s (ka:Int) ⟨1,0⟩)):Calls Try.prog 208 #[.pointer (some ⟨mb,0,none⟩),.agg #[.int .i64 5,.int .i64 ka,.int .i64 kb,.int .i64 kc,.int .i64 in_,.slice ar n cap]] w (AnsR E B0 mb vs vk w o):=by
 have G0:=Lib.hid (Gon.start M);have hmb:=M.mbw;have nbx:¬ mo mb vs vk w.heap.size:=fun hk=>by have:=(M.mo_lo hk).2;omega
 clear M
 go_enter Try.func208,Try.ntmps208
 go_wp2_with fail
 obtain ⟨W,hW⟩:∃ W,W=w.alloc (.cells #[.int .i64 5,.int .i64 ka,.int .i64 kb,.int .i64 kc,.int .i64 in_,.slice ar n cap] 63):=⟨_,rfl⟩;have hbW:Below w.heap.size w W:=by rw [hW];exact Rd.byB
 have hsW:W.heap.size=w.heap.size+1:=by rw [hW];simp
 have b1:W.cell? ⟨w.heap.size,1,none⟩=some (.int .i64 ka):=by rw [hW];go_simp
 have b2:W.cell? ⟨w.heap.size,2,none⟩=some (.int .i64 kb):=by rw [hW];go_simp
 have b3:W.cell? ⟨w.heap.size,3,none⟩=some (.int .i64 kc):=by rw [hW];go_simp
 replace G0:=Lib.hid (G0.out.below hbW);rw [← hW];clear hW;obtain ⟨p,hp⟩:∃ p,Hid (loadB s.slots kb 1=p):=⟨_,Lib.hid rfl⟩
 cases p
 ·refine (readF G0.out.M P hbig kb 1 hkb hp).mono ?_;rintro e w1 ⟨rfl,hb1⟩;refine And.intro rfl ?_;exact (G0.out.below hb1).no (ho.out.trans (rdk_f hp.out))
 obtain ⟨x,hx⟩:∃ x,Hid (loadV s.slots kb 1=x):=⟨_,Lib.hid rfl⟩;refine (readT G0.out.M P hbig kb 1 hkb hx hp).mono ?_;rintro e w1 ⟨rfl,hb1⟩;replace ho:=Lib.hid (ho.out.trans (rdk_t hp.out));replace G0:=Lib.hid (G0.out.below hb1);replace b1:=kept hb1 (cell_lt b1) b1;replace b2:=kept hb1 (cell_lt b2) b2;replace b3:=kept hb1 (cell_lt b3) b3;clear hb1 hp hx;obtain ⟨W,rfl⟩:∃ W:World,W=w1:=⟨_,rfl⟩
 go_wp2_with fail
 obtain ⟨p,hp⟩:∃ p,Hid (loadB s.slots kc 1=p):=⟨_,Lib.hid rfl⟩
 cases p
 ·refine (readF G0.out.M P hbig kc 1 hkc hp).mono ?_;rintro e w1 ⟨rfl,hb1⟩;refine And.intro rfl ?_;exact (G0.out.below hb1).no (ho.out.trans (rdk_f hp.out))
 obtain ⟨x,hx⟩:∃ x,Hid (loadV s.slots kc 1=x):=⟨_,Lib.hid rfl⟩;refine (readT G0.out.M P hbig kc 1 hkc hx hp).mono ?_;rintro e w1 ⟨rfl,hb1⟩;replace ho:=Lib.hid (ho.out.trans (rdk_t hp.out));replace G0:=Lib.hid (G0.out.below hb1);replace b1:=kept hb1 (cell_lt b1) b1;replace b2:=kept hb1 (cell_lt b2) b2;replace b3:=kept hb1 (cell_lt b3) b3;clear hb1 hp hx;obtain ⟨W,rfl⟩:∃ W:World,W=w1:=⟨_,rfl⟩
 go_wp2_with fail
 refine Drawn.hd (fun w'=>w'.cell? ⟨w.heap.size,1,none⟩=some (.int .i64 ka)∧w'.cell? ⟨w.heap.size,2,none⟩=some (.int .i64 kb)∧w'.cell? ⟨w.heap.size,3,none⟩=some (.int .i64 kc)) (hS:=by (try dsimp only);exact ⟨b1,b2,b3⟩) (h:=fun hHeld=>?_)
 refine dT 0 61 ?_;refine dT 1 62 ?_;refine dT 2 63 ?_;refine dT 3 64 ?_;refine dT 4 65 ?_;refine Drawn.cl 5 (fun K hK=>?_);go_simp
 go_at_call 238
 refine (kind _ _).mono ?_;rintro e wk ⟨rfl,hbk⟩;have hbkW:Below W.heap.size W wk:=Below.trans (by exact Rd.byB) (hbk.mono Rd.byL)
 replace G0:=Lib.hid (G0.out.below hbkW);replace b1:=kept hbkW (cell_lt b1) b1;replace b2:=kept hbkW (cell_lt b2) b2;replace b3:=kept hbkW (cell_lt b3) b3
 go_wp2_with fail
 refine Drawn.bk hK (hS:=by (try dsimp only);exact ⟨b1,b2,b3⟩) (h:=fun hHeld=>?_)
 clear hK K;refine Drawn.cl 6 (fun K hK=>?_);go_simp
 go_at_call 91
 refine (sto G0.out.M P hbig ka ⟨1,0⟩ (tok0 1 (by decide)) hka (fun e=>by simp at e)).mono ?_
 rintro e w3 ⟨rfl,G3⟩;replace b1:=G3.K.cell b1 nbx;replace b2:=G3.K.cell b2 nbx;replace b3:=G3.K.cell b3 nbx;have G4:=Lib.hid (G0.out.step G3);clear G3
 go_wp2_with fail
 refine Drawn.bk hK (hS:=by (try dsimp only);exact ⟨b1,b2,b3⟩) (h:=fun hHeld=>?_)
 clear hK K;refine dN ?_
 go_wp2
 first | go_end0 | ((try simp only [Exit.inBlock,Exit.then]);refine bodyPost_ret (results_none rfl _ _ _) rfl ?_)
 exact G4.out.yes ho.out
set_option maxRecDepth 100000 in
theorem op6 (M:MS E w B0 mb vs vk s) (P:Paired s.slots) (hbig:s.slots.length≤1000){o:Option State}(ka kb kc:Nat) (in_:Int) (hka:ka < s.slots.length) (hkb:kb < s.slots.length) (hkc:kc < s.slots.length) (hka2:ka+1 < s.slots.length) (ar:Option Addr) (n cap:Nat) (ho:Hid (o=Ckr.rdk s (kb:Int) 2 fun _=>Ckr.rdk s (kc:Int) 2 fun _=>Ckr.sto s (ka:Int) ⟨2,0⟩)):Calls Try.prog 208 #[.pointer (some ⟨mb,0,none⟩),.agg #[.int .i64 6,.int .i64 ka,.int .i64 kb,.int .i64 kc,.int .i64 in_,.slice ar n cap]] w (AnsR E B0 mb vs vk w o):=by
 have G0:=Lib.hid (Gon.start M);have hmb:=M.mbw;have nbx:¬ mo mb vs vk w.heap.size:=fun hk=>by have:=(M.mo_lo hk).2;omega
 clear M
 go_enter Try.func208,Try.ntmps208
 go_wp2_with fail
 obtain ⟨W,hW⟩:∃ W,W=w.alloc (.cells #[.int .i64 6,.int .i64 ka,.int .i64 kb,.int .i64 kc,.int .i64 in_,.slice ar n cap] 63):=⟨_,rfl⟩;have hbW:Below w.heap.size w W:=by rw [hW];exact Rd.byB
 have hsW:W.heap.size=w.heap.size+1:=by rw [hW];simp
 have b1:W.cell? ⟨w.heap.size,1,none⟩=some (.int .i64 ka):=by rw [hW];go_simp
 have b2:W.cell? ⟨w.heap.size,2,none⟩=some (.int .i64 kb):=by rw [hW];go_simp
 have b3:W.cell? ⟨w.heap.size,3,none⟩=some (.int .i64 kc):=by rw [hW];go_simp
 replace G0:=Lib.hid (G0.out.below hbW);rw [← hW];clear hW;obtain ⟨p,hp⟩:∃ p,Hid (loadB s.slots kb 2=p):=⟨_,Lib.hid rfl⟩
 cases p
 ·refine (readF G0.out.M P hbig kb 2 hkb hp).mono ?_;rintro e w1 ⟨rfl,hb1⟩;refine And.intro rfl ?_;exact (G0.out.below hb1).no (ho.out.trans (rdk_f hp.out))
 obtain ⟨x,hx⟩:∃ x,Hid (loadV s.slots kb 2=x):=⟨_,Lib.hid rfl⟩;refine (readT G0.out.M P hbig kb 2 hkb hx hp).mono ?_;rintro e w1 ⟨rfl,hb1⟩;replace ho:=Lib.hid (ho.out.trans (rdk_t hp.out));replace G0:=Lib.hid (G0.out.below hb1);replace b1:=kept hb1 (cell_lt b1) b1;replace b2:=kept hb1 (cell_lt b2) b2;replace b3:=kept hb1 (cell_lt b3) b3;clear hb1 hp hx;obtain ⟨W,rfl⟩:∃ W:World,W=w1:=⟨_,rfl⟩
 go_wp2_with fail
 obtain ⟨p,hp⟩:∃ p,Hid (loadB s.slots kc 2=p):=⟨_,Lib.hid rfl⟩
 cases p
 ·refine (readF G0.out.M P hbig kc 2 hkc hp).mono ?_;rintro e w1 ⟨rfl,hb1⟩;refine And.intro rfl ?_;exact (G0.out.below hb1).no (ho.out.trans (rdk_f hp.out))
 obtain ⟨x,hx⟩:∃ x,Hid (loadV s.slots kc 2=x):=⟨_,Lib.hid rfl⟩;refine (readT G0.out.M P hbig kc 2 hkc hx hp).mono ?_;rintro e w1 ⟨rfl,hb1⟩;replace ho:=Lib.hid (ho.out.trans (rdk_t hp.out));replace G0:=Lib.hid (G0.out.below hb1);replace b1:=kept hb1 (cell_lt b1) b1;replace b2:=kept hb1 (cell_lt b2) b2;replace b3:=kept hb1 (cell_lt b3) b3;clear hb1 hp hx;obtain ⟨W,rfl⟩:∃ W:World,W=w1:=⟨_,rfl⟩
 go_wp2_with fail
 refine Drawn.hd (fun w'=>w'.cell? ⟨w.heap.size,1,none⟩=some (.int .i64 ka)∧w'.cell? ⟨w.heap.size,2,none⟩=some (.int .i64 kb)∧w'.cell? ⟨w.heap.size,3,none⟩=some (.int .i64 kc)) (hS:=by (try dsimp only);exact ⟨b1,b2,b3⟩) (h:=fun hHeld=>?_)
 refine dT 0 78 ?_;refine dT 1 79 ?_;refine dT 2 80 ?_;refine dT 3 81 ?_;refine dT 4 82 ?_;refine Drawn.cl 5 (fun K hK=>?_);go_simp
 go_at_call 238
 refine (kind _ _).mono ?_;rintro e wk ⟨rfl,hbk⟩;have hbkW:Below W.heap.size W wk:=Below.trans (by exact Rd.byB) (hbk.mono Rd.byL)
 replace G0:=Lib.hid (G0.out.below hbkW);replace b1:=kept hbkW (cell_lt b1) b1;replace b2:=kept hbkW (cell_lt b2) b2;replace b3:=kept hbkW (cell_lt b3) b3
 go_wp2_with fail
 refine Drawn.bk hK (hS:=by (try dsimp only);exact ⟨b1,b2,b3⟩) (h:=fun hHeld=>?_)
 clear hK K;refine Drawn.cl 6 (fun K hK=>?_);go_simp
 go_at_call 91
 refine (sto G0.out.M P hbig ka ⟨2,0⟩ (tok0 2 (by decide)) hka (fun _=>hka2)).mono ?_
 rintro e w3 ⟨rfl,G3⟩;replace b1:=G3.K.cell b1 nbx;replace b2:=G3.K.cell b2 nbx;replace b3:=G3.K.cell b3 nbx;have G4:=Lib.hid (G0.out.step G3);clear G3
 go_wp2_with fail
 refine Drawn.bk hK (hS:=by (try dsimp only);exact ⟨b1,b2,b3⟩) (h:=fun hHeld=>?_)
 clear hK K;refine dN ?_
 go_wp2
 first | go_end0 | ((try simp only [Exit.inBlock,Exit.then]);refine bodyPost_ret (results_none rfl _ _ _) rfl ?_)
 exact G4.out.yes ho.out
set_option maxRecDepth 100000 in
theorem op7 (M:MS E w B0 mb vs vk s) (P:Paired s.slots) (hbig:s.slots.length≤1000){o:Option State}(ka kb:Nat) (ic in_:Int) (hka:ka < s.slots.length) (hkb:kb < s.slots.length) (hka2:ka+1 < s.slots.length) (ar:Option Addr) (n cap:Nat) (ho:Hid (o=Ckr.rdk s (kb:Int) 1 fun _=>Ckr.sto s (ka:Int) ⟨2,0⟩)):Calls Try.prog 208 #[.pointer (some ⟨mb,0,none⟩),.agg #[.int .i64 7,.int .i64 ka,.int .i64 kb,.int .i64 ic,.int .i64 in_,.slice ar n cap]] w (AnsR E B0 mb vs vk w o):=by
 have G0:=Lib.hid (Gon.start M);have hmb:=M.mbw;have nbx:¬ mo mb vs vk w.heap.size:=fun hk=>by have:=(M.mo_lo hk).2;omega
 clear M
 go_enter Try.func208,Try.ntmps208
 go_wp2_with fail
 obtain ⟨W,hW⟩:∃ W,W=w.alloc (.cells #[.int .i64 7,.int .i64 ka,.int .i64 kb,.int .i64 ic,.int .i64 in_,.slice ar n cap] 63):=⟨_,rfl⟩;have hbW:Below w.heap.size w W:=by rw [hW];exact Rd.byB
 have hsW:W.heap.size=w.heap.size+1:=by rw [hW];simp
 have b1:W.cell? ⟨w.heap.size,1,none⟩=some (.int .i64 ka):=by rw [hW];go_simp
 have b2:W.cell? ⟨w.heap.size,2,none⟩=some (.int .i64 kb):=by rw [hW];go_simp
 replace G0:=Lib.hid (G0.out.below hbW);rw [← hW];clear hW;obtain ⟨p,hp⟩:∃ p,Hid (loadB s.slots kb 1=p):=⟨_,Lib.hid rfl⟩
 cases p
 ·refine (readF G0.out.M P hbig kb 1 hkb hp).mono ?_;rintro e w1 ⟨rfl,hb1⟩;refine And.intro rfl ?_;exact (G0.out.below hb1).no (ho.out.trans (rdk_f hp.out))
 obtain ⟨x,hx⟩:∃ x,Hid (loadV s.slots kb 1=x):=⟨_,Lib.hid rfl⟩;refine (readT G0.out.M P hbig kb 1 hkb hx hp).mono ?_;rintro e w1 ⟨rfl,hb1⟩;replace ho:=Lib.hid (ho.out.trans (rdk_t hp.out));replace G0:=Lib.hid (G0.out.below hb1);replace b1:=kept hb1 (cell_lt b1) b1;replace b2:=kept hb1 (cell_lt b2) b2;clear hb1 hp hx;obtain ⟨W,rfl⟩:∃ W:World,W=w1:=⟨_,rfl⟩
 go_wp2_with fail
 refine Drawn.hd (fun w'=>w'.cell? ⟨w.heap.size,1,none⟩=some (.int .i64 ka)∧w'.cell? ⟨w.heap.size,2,none⟩=some (.int .i64 kb)) (hS:=by (try dsimp only);exact ⟨b1,b2⟩) (h:=fun hHeld=>?_)
 refine dT 0 91 ?_;refine dT 1 92 ?_;refine dT 2 93 ?_;refine dT 3 94 ?_;refine dT 4 95 ?_;refine Drawn.cl 5 (fun K hK=>?_);go_simp
 go_at_call 238
 refine (kind _ _).mono ?_;rintro e wk ⟨rfl,hbk⟩;have hbkW:Below W.heap.size W wk:=Below.trans (by exact Rd.byB) (hbk.mono Rd.byL)
 replace G0:=Lib.hid (G0.out.below hbkW);replace b1:=kept hbkW (cell_lt b1) b1;replace b2:=kept hbkW (cell_lt b2) b2
 go_wp2_with fail
 refine Drawn.bk hK (hS:=by (try dsimp only);exact ⟨b1,b2⟩) (h:=fun hHeld=>?_)
 clear hK K;refine Drawn.cl 6 (fun K hK=>?_);go_simp
 go_at_call 91
 refine (sto G0.out.M P hbig ka ⟨2,0⟩ (tok0 2 (by decide)) hka (fun _=>hka2)).mono ?_
 rintro e w3 ⟨rfl,G3⟩;replace b1:=G3.K.cell b1 nbx;replace b2:=G3.K.cell b2 nbx;have G4:=Lib.hid (G0.out.step G3);clear G3
 go_wp2_with fail
 refine Drawn.bk hK (hS:=by (try dsimp only);exact ⟨b1,b2⟩) (h:=fun hHeld=>?_)
 clear hK K;refine dN ?_
 go_wp2
 first | go_end0 | ((try simp only [Exit.inBlock,Exit.then]);refine bodyPost_ret (results_none rfl _ _ _) rfl ?_)
 exact G4.out.yes ho.out
set_option maxRecDepth 100000 in
theorem op8 (M:MS E w B0 mb vs vk s) (P:Paired s.slots) (hbig:s.slots.length≤1000){o:Option State}(ka kb:Nat) (ic in_:Int) (hka:ka < s.slots.length) (hkb:kb < s.slots.length) (ar:Option Addr) (n cap:Nat) (ho:Hid (o=Ckr.rdk s (kb:Int) 2 fun _=>Ckr.sto s (ka:Int) ⟨1,0⟩)):Calls Try.prog 208 #[.pointer (some ⟨mb,0,none⟩),.agg #[.int .i64 8,.int .i64 ka,.int .i64 kb,.int .i64 ic,.int .i64 in_,.slice ar n cap]] w (AnsR E B0 mb vs vk w o):=by
 have G0:=Lib.hid (Gon.start M);have hmb:=M.mbw;have nbx:¬ mo mb vs vk w.heap.size:=fun hk=>by have:=(M.mo_lo hk).2;omega
 clear M
 go_enter Try.func208,Try.ntmps208
 go_wp2_with fail
 obtain ⟨W,hW⟩:∃ W,W=w.alloc (.cells #[.int .i64 8,.int .i64 ka,.int .i64 kb,.int .i64 ic,.int .i64 in_,.slice ar n cap] 63):=⟨_,rfl⟩;have hbW:Below w.heap.size w W:=by rw [hW];exact Rd.byB
 have hsW:W.heap.size=w.heap.size+1:=by rw [hW];simp
 have b1:W.cell? ⟨w.heap.size,1,none⟩=some (.int .i64 ka):=by rw [hW];go_simp
 have b2:W.cell? ⟨w.heap.size,2,none⟩=some (.int .i64 kb):=by rw [hW];go_simp
 replace G0:=Lib.hid (G0.out.below hbW);rw [← hW];clear hW;obtain ⟨p,hp⟩:∃ p,Hid (loadB s.slots kb 2=p):=⟨_,Lib.hid rfl⟩
 cases p
 ·refine (readF G0.out.M P hbig kb 2 hkb hp).mono ?_;rintro e w1 ⟨rfl,hb1⟩;refine And.intro rfl ?_;exact (G0.out.below hb1).no (ho.out.trans (rdk_f hp.out))
 obtain ⟨x,hx⟩:∃ x,Hid (loadV s.slots kb 2=x):=⟨_,Lib.hid rfl⟩;refine (readT G0.out.M P hbig kb 2 hkb hx hp).mono ?_;rintro e w1 ⟨rfl,hb1⟩;replace ho:=Lib.hid (ho.out.trans (rdk_t hp.out));replace G0:=Lib.hid (G0.out.below hb1);replace b1:=kept hb1 (cell_lt b1) b1;replace b2:=kept hb1 (cell_lt b2) b2;clear hb1 hp hx;obtain ⟨W,rfl⟩:∃ W:World,W=w1:=⟨_,rfl⟩
 go_wp2_with fail
 refine Drawn.hd (fun w'=>w'.cell? ⟨w.heap.size,1,none⟩=some (.int .i64 ka)∧w'.cell? ⟨w.heap.size,2,none⟩=some (.int .i64 kb)) (hS:=by (try dsimp only);exact ⟨b1,b2⟩) (h:=fun hHeld=>?_)
 refine dT 0 104 ?_;refine dT 1 105 ?_;refine dT 2 106 ?_;refine dT 3 107 ?_;refine dT 4 108 ?_;refine Drawn.cl 5 (fun K hK=>?_);go_simp
 go_at_call 238
 refine (kind _ _).mono ?_;rintro e wk ⟨rfl,hbk⟩;have hbkW:Below W.heap.size W wk:=Below.trans (by exact Rd.byB) (hbk.mono Rd.byL)
 replace G0:=Lib.hid (G0.out.below hbkW);replace b1:=kept hbkW (cell_lt b1) b1;replace b2:=kept hbkW (cell_lt b2) b2
 go_wp2_with fail
 refine Drawn.bk hK (hS:=by (try dsimp only);exact ⟨b1,b2⟩) (h:=fun hHeld=>?_)
 clear hK K;refine Drawn.cl 6 (fun K hK=>?_);go_simp
 go_at_call 91
 refine (sto G0.out.M P hbig ka ⟨1,0⟩ (tok0 1 (by decide)) hka (fun e=>by simp at e)).mono ?_
 rintro e w3 ⟨rfl,G3⟩;replace b1:=G3.K.cell b1 nbx;replace b2:=G3.K.cell b2 nbx;have G4:=Lib.hid (G0.out.step G3);clear G3
 go_wp2_with fail
 refine Drawn.bk hK (hS:=by (try dsimp only);exact ⟨b1,b2⟩) (h:=fun hHeld=>?_)
 clear hK K;refine dN ?_
 go_wp2
 first | go_end0 | ((try simp only [Exit.inBlock,Exit.then]);refine bodyPost_ret (results_none rfl _ _ _) rfl ?_)
 exact G4.out.yes ho.out
set_option maxRecDepth 100000 in
theorem op9 (M:MS E w B0 mb vs vk s) (P:Paired s.slots) (hbig:s.slots.length≤1000){o:Option State}(ka kb kc:Nat) (in_:Int) (hka:ka < s.slots.length) (hkb:kb < s.slots.length) (hkc:kc < s.slots.length) (ar:Option Addr) (n cap:Nat) (ho:Hid (o=Ckr.rdk s (kb:Int) 2 fun _=>Ckr.rdk s (kc:Int) 2 fun _=>Ckr.sto s (ka:Int) ⟨1,0⟩)):Calls Try.prog 208 #[.pointer (some ⟨mb,0,none⟩),.agg #[.int .i64 9,.int .i64 ka,.int .i64 kb,.int .i64 kc,.int .i64 in_,.slice ar n cap]] w (AnsR E B0 mb vs vk w o):=by
 have G0:=Lib.hid (Gon.start M);have hmb:=M.mbw;have nbx:¬ mo mb vs vk w.heap.size:=fun hk=>by have:=(M.mo_lo hk).2;omega
 clear M
 go_enter Try.func208,Try.ntmps208
 go_wp2_with fail
 obtain ⟨W,hW⟩:∃ W,W=w.alloc (.cells #[.int .i64 9,.int .i64 ka,.int .i64 kb,.int .i64 kc,.int .i64 in_,.slice ar n cap] 63):=⟨_,rfl⟩;have hbW:Below w.heap.size w W:=by rw [hW];exact Rd.byB
 have hsW:W.heap.size=w.heap.size+1:=by rw [hW];simp
 have b1:W.cell? ⟨w.heap.size,1,none⟩=some (.int .i64 ka):=by rw [hW];go_simp
 have b2:W.cell? ⟨w.heap.size,2,none⟩=some (.int .i64 kb):=by rw [hW];go_simp
 have b3:W.cell? ⟨w.heap.size,3,none⟩=some (.int .i64 kc):=by rw [hW];go_simp
 replace G0:=Lib.hid (G0.out.below hbW);rw [← hW];clear hW;obtain ⟨p,hp⟩:∃ p,Hid (loadB s.slots kb 2=p):=⟨_,Lib.hid rfl⟩
 cases p
 ·refine (readF G0.out.M P hbig kb 2 hkb hp).mono ?_;rintro e w1 ⟨rfl,hb1⟩;refine And.intro rfl ?_;exact (G0.out.below hb1).no (ho.out.trans (rdk_f hp.out))
 obtain ⟨x,hx⟩:∃ x,Hid (loadV s.slots kb 2=x):=⟨_,Lib.hid rfl⟩;refine (readT G0.out.M P hbig kb 2 hkb hx hp).mono ?_;rintro e w1 ⟨rfl,hb1⟩;replace ho:=Lib.hid (ho.out.trans (rdk_t hp.out));replace G0:=Lib.hid (G0.out.below hb1);replace b1:=kept hb1 (cell_lt b1) b1;replace b2:=kept hb1 (cell_lt b2) b2;replace b3:=kept hb1 (cell_lt b3) b3;clear hb1 hp hx;obtain ⟨W,rfl⟩:∃ W:World,W=w1:=⟨_,rfl⟩
 go_wp2_with fail
 obtain ⟨p,hp⟩:∃ p,Hid (loadB s.slots kc 2=p):=⟨_,Lib.hid rfl⟩
 cases p
 ·refine (readF G0.out.M P hbig kc 2 hkc hp).mono ?_;rintro e w1 ⟨rfl,hb1⟩;refine And.intro rfl ?_;exact (G0.out.below hb1).no (ho.out.trans (rdk_f hp.out))
 obtain ⟨x,hx⟩:∃ x,Hid (loadV s.slots kc 2=x):=⟨_,Lib.hid rfl⟩;refine (readT G0.out.M P hbig kc 2 hkc hx hp).mono ?_;rintro e w1 ⟨rfl,hb1⟩;replace ho:=Lib.hid (ho.out.trans (rdk_t hp.out));replace G0:=Lib.hid (G0.out.below hb1);replace b1:=kept hb1 (cell_lt b1) b1;replace b2:=kept hb1 (cell_lt b2) b2;replace b3:=kept hb1 (cell_lt b3) b3;clear hb1 hp hx;obtain ⟨W,rfl⟩:∃ W:World,W=w1:=⟨_,rfl⟩
 go_wp2_with fail
 refine Drawn.hd (fun w'=>w'.cell? ⟨w.heap.size,1,none⟩=some (.int .i64 ka)∧w'.cell? ⟨w.heap.size,2,none⟩=some (.int .i64 kb)∧w'.cell? ⟨w.heap.size,3,none⟩=some (.int .i64 kc)) (hS:=by (try dsimp only);exact ⟨b1,b2,b3⟩) (h:=fun hHeld=>?_)
 refine dT 0 121 ?_;refine dT 1 122 ?_;refine dT 2 123 ?_;refine dT 3 124 ?_;refine dT 4 125 ?_;refine Drawn.cl 5 (fun K hK=>?_);go_simp
 go_at_call 238
 refine (kind _ _).mono ?_;rintro e wk ⟨rfl,hbk⟩;have hbkW:Below W.heap.size W wk:=Below.trans (by exact Rd.byB) (hbk.mono Rd.byL)
 replace G0:=Lib.hid (G0.out.below hbkW);replace b1:=kept hbkW (cell_lt b1) b1;replace b2:=kept hbkW (cell_lt b2) b2;replace b3:=kept hbkW (cell_lt b3) b3
 go_wp2_with fail
 refine Drawn.bk hK (hS:=by (try dsimp only);exact ⟨b1,b2,b3⟩) (h:=fun hHeld=>?_)
 clear hK K;refine Drawn.cl 6 (fun K hK=>?_);go_simp
 go_at_call 91
 refine (sto G0.out.M P hbig ka ⟨1,0⟩ (tok0 1 (by decide)) hka (fun e=>by simp at e)).mono ?_
 rintro e w3 ⟨rfl,G3⟩;replace b1:=G3.K.cell b1 nbx;replace b2:=G3.K.cell b2 nbx;replace b3:=G3.K.cell b3 nbx;have G4:=Lib.hid (G0.out.step G3);clear G3
 go_wp2_with fail
 refine Drawn.bk hK (hS:=by (try dsimp only);exact ⟨b1,b2,b3⟩) (h:=fun hHeld=>?_)
 clear hK K;refine dN ?_
 go_wp2
 first | go_end0 | ((try simp only [Exit.inBlock,Exit.then]);refine bodyPost_ret (results_none rfl _ _ _) rfl ?_)
 exact G4.out.yes ho.out
set_option maxRecDepth 100000 in
theorem op11 (M:MS E w B0 mb vs vk s) (P:Paired s.slots) (hbig:s.slots.length≤1000){o:Option State}(kc:Nat) (ia ib in_:Int) (hkc:kc < s.slots.length) (ar:Option Addr) (n cap:Nat) (ho:Hid (o=Ckr.rdk s (kc:Int) 1 fun _=>some s)):Calls Try.prog 208 #[.pointer (some ⟨mb,0,none⟩),.agg #[.int .i64 11,.int .i64 ia,.int .i64 ib,.int .i64 kc,.int .i64 in_,.slice ar n cap]] w (AnsR E B0 mb vs vk w o):=by
 have G0:=Lib.hid (Gon.start M);have hmb:=M.mbw;have nbx:¬ mo mb vs vk w.heap.size:=fun hk=>by have:=(M.mo_lo hk).2;omega
 clear M
 go_enter Try.func208,Try.ntmps208
 go_wp2_with fail
 obtain ⟨W,hW⟩:∃ W,W=w.alloc (.cells #[.int .i64 11,.int .i64 ia,.int .i64 ib,.int .i64 kc,.int .i64 in_,.slice ar n cap] 63):=⟨_,rfl⟩;have hbW:Below w.heap.size w W:=by rw [hW];exact Rd.byB
 have hsW:W.heap.size=w.heap.size+1:=by rw [hW];simp
 replace G0:=Lib.hid (G0.out.below hbW);rw [← hW];clear hW;obtain ⟨p,hp⟩:∃ p,Hid (loadB s.slots kc 1=p):=⟨_,Lib.hid rfl⟩
 cases p
 ·refine (readF G0.out.M P hbig kc 1 hkc hp).mono ?_;rintro e w1 ⟨rfl,hb1⟩;refine And.intro rfl ?_;exact (G0.out.below hb1).no (ho.out.trans (rdk_f hp.out))
 obtain ⟨x,hx⟩:∃ x,Hid (loadV s.slots kc 1=x):=⟨_,Lib.hid rfl⟩;refine (readT G0.out.M P hbig kc 1 hkc hx hp).mono ?_;rintro e w1 ⟨rfl,hb1⟩;replace ho:=Lib.hid (ho.out.trans (rdk_t hp.out));replace G0:=Lib.hid (G0.out.below hb1);clear hb1 hp hx;obtain ⟨W,rfl⟩:∃ W:World,W=w1:=⟨_,rfl⟩
 go_wp2
 first | go_end0 | ((try simp only [Exit.inBlock,Exit.then]);refine bodyPost_ret (results_none rfl _ _ _) rfl ?_)
 exact G0.out.yes ho.out
set_option maxRecDepth 100000 in
theorem op12 (M:MS E w B0 mb vs vk s) (P:Paired s.slots) (hbig:s.slots.length≤1000){o:Option State}(kc:Nat) (ia ib in_:Int) (hkc:kc < s.slots.length) (ar:Option Addr) (n cap:Nat) (ho:Hid (o=Ckr.rdk s (kc:Int) 3 fun _=>some s)):Calls Try.prog 208 #[.pointer (some ⟨mb,0,none⟩),.agg #[.int .i64 12,.int .i64 ia,.int .i64 ib,.int .i64 kc,.int .i64 in_,.slice ar n cap]] w (AnsR E B0 mb vs vk w o):=by
 have G0:=Lib.hid (Gon.start M);have hmb:=M.mbw;have nbx:¬ mo mb vs vk w.heap.size:=fun hk=>by have:=(M.mo_lo hk).2;omega
 clear M
 go_enter Try.func208,Try.ntmps208
 go_wp2_with fail
 obtain ⟨W,hW⟩:∃ W,W=w.alloc (.cells #[.int .i64 12,.int .i64 ia,.int .i64 ib,.int .i64 kc,.int .i64 in_,.slice ar n cap] 63):=⟨_,rfl⟩;have hbW:Below w.heap.size w W:=by rw [hW];exact Rd.byB
 have hsW:W.heap.size=w.heap.size+1:=by rw [hW];simp
 replace G0:=Lib.hid (G0.out.below hbW);rw [← hW];clear hW;obtain ⟨p,hp⟩:∃ p,Hid (loadB s.slots kc 3=p):=⟨_,Lib.hid rfl⟩
 cases p
 ·refine (readF G0.out.M P hbig kc 3 hkc hp).mono ?_;rintro e w1 ⟨rfl,hb1⟩;refine And.intro rfl ?_;exact (G0.out.below hb1).no (ho.out.trans (rdk_f hp.out))
 obtain ⟨x,hx⟩:∃ x,Hid (loadV s.slots kc 3=x):=⟨_,Lib.hid rfl⟩;refine (readT G0.out.M P hbig kc 3 hkc hx hp).mono ?_;rintro e w1 ⟨rfl,hb1⟩;replace ho:=Lib.hid (ho.out.trans (rdk_t hp.out));replace G0:=Lib.hid (G0.out.below hb1);clear hb1 hp hx;obtain ⟨W,rfl⟩:∃ W:World,W=w1:=⟨_,rfl⟩
 go_wp2
 first | go_end0 | ((try simp only [Exit.inBlock,Exit.then]);refine bodyPost_ret (results_none rfl _ _ _) rfl ?_)
 exact G0.out.yes ho.out
set_option maxRecDepth 100000 in
theorem op21 (M:MS E w B0 mb vs vk s) (P:Paired s.slots) (hbig:s.slots.length≤1000){o:Option State}(ka:Nat) (ib ic in_:Int) (hka:ka < s.slots.length) (ar:Option Addr) (n cap:Nat) (ho:Hid (o=Ckr.rdk s (ka:Int) 3 fun _=>some s)):Calls Try.prog 208 #[.pointer (some ⟨mb,0,none⟩),.agg #[.int .i64 21,.int .i64 ka,.int .i64 ib,.int .i64 ic,.int .i64 in_,.slice ar n cap]] w (AnsR E B0 mb vs vk w o):=by
 have G0:=Lib.hid (Gon.start M);have hmb:=M.mbw;have nbx:¬ mo mb vs vk w.heap.size:=fun hk=>by have:=(M.mo_lo hk).2;omega
 clear M
 go_enter Try.func208,Try.ntmps208
 go_wp2_with fail
 obtain ⟨W,hW⟩:∃ W,W=w.alloc (.cells #[.int .i64 21,.int .i64 ka,.int .i64 ib,.int .i64 ic,.int .i64 in_,.slice ar n cap] 63):=⟨_,rfl⟩;have hbW:Below w.heap.size w W:=by rw [hW];exact Rd.byB
 have hsW:W.heap.size=w.heap.size+1:=by rw [hW];simp
 replace G0:=Lib.hid (G0.out.below hbW);rw [← hW];clear hW;obtain ⟨p,hp⟩:∃ p,Hid (loadB s.slots ka 3=p):=⟨_,Lib.hid rfl⟩
 cases p
 ·refine (readF G0.out.M P hbig ka 3 hka hp).mono ?_;rintro e w1 ⟨rfl,hb1⟩;refine And.intro rfl ?_;exact (G0.out.below hb1).no (ho.out.trans (rdk_f hp.out))
 obtain ⟨x,hx⟩:∃ x,Hid (loadV s.slots ka 3=x):=⟨_,Lib.hid rfl⟩;refine (readT G0.out.M P hbig ka 3 hka hx hp).mono ?_;rintro e w1 ⟨rfl,hb1⟩;replace ho:=Lib.hid (ho.out.trans (rdk_t hp.out));replace G0:=Lib.hid (G0.out.below hb1);clear hb1 hp hx;obtain ⟨W,rfl⟩:∃ W:World,W=w1:=⟨_,rfl⟩
 go_wp2
 first | go_end0 | ((try simp only [Exit.inBlock,Exit.then]);refine bodyPost_ret (results_none rfl _ _ _) rfl ?_)
 exact G0.out.yes ho.out
set_option maxRecDepth 100000 in
theorem op23 (M:MS E w B0 mb vs vk s) (P:Paired s.slots) (hbig:s.slots.length≤1000){o:Option State}(ka:Nat) (ib ic in_:Int) (hka:ka < s.slots.length) (ar:Option Addr) (n cap:Nat) (ho:Hid (o=Ckr.rdk s (ka:Int) ib fun _=>some s)):Calls Try.prog 208 #[.pointer (some ⟨mb,0,none⟩),.agg #[.int .i64 23,.int .i64 ka,.int .i64 ib,.int .i64 ic,.int .i64 in_,.slice ar n cap]] w (AnsR E B0 mb vs vk w o):=by
 have G0:=Lib.hid (Gon.start M);have hmb:=M.mbw;have nbx:¬ mo mb vs vk w.heap.size:=fun hk=>by have:=(M.mo_lo hk).2;omega
 clear M
 go_enter Try.func208,Try.ntmps208
 go_wp2_with fail
 obtain ⟨W,hW⟩:∃ W,W=w.alloc (.cells #[.int .i64 23,.int .i64 ka,.int .i64 ib,.int .i64 ic,.int .i64 in_,.slice ar n cap] 63):=⟨_,rfl⟩;have hbW:Below w.heap.size w W:=by rw [hW];exact Rd.byB
 have hsW:W.heap.size=w.heap.size+1:=by rw [hW];simp
 replace G0:=Lib.hid (G0.out.below hbW);rw [← hW];clear hW;obtain ⟨p,hp⟩:∃ p,Hid (loadB s.slots ka ib=p):=⟨_,Lib.hid rfl⟩
 cases p
 ·refine (readF G0.out.M P hbig ka ib hka hp).mono ?_;rintro e w1 ⟨rfl,hb1⟩;refine And.intro rfl ?_;exact (G0.out.below hb1).no (ho.out.trans (rdk_f hp.out))
 obtain ⟨x,hx⟩:∃ x,Hid (loadV s.slots ka ib=x):=⟨_,Lib.hid rfl⟩;refine (readT G0.out.M P hbig ka ib hka hx hp).mono ?_;rintro e w1 ⟨rfl,hb1⟩;replace ho:=Lib.hid (ho.out.trans (rdk_t hp.out));replace G0:=Lib.hid (G0.out.below hb1);clear hb1 hp hx;obtain ⟨W,rfl⟩:∃ W:World,W=w1:=⟨_,rfl⟩
 go_wp2
 first | go_end0 | ((try simp only [Exit.inBlock,Exit.then]);refine bodyPost_ret (results_none rfl _ _ _) rfl ?_)
 exact G0.out.yes ho.out
set_option maxRecDepth 100000 in
theorem op4 (M:MS E w B0 mb vs vk s) (P:Paired s.slots) (hbig:s.slots.length≤1000){o:Option State}(ka kb:Nat) (ic in_:Int) (hka:ka < s.slots.length) (hkb:kb < s.slots.length) (hka2:loadB s.slots kb ic=true→(loadV s.slots kb ic).kind=2→ka+1 < s.slots.length) (ar:Option Addr) (n cap:Nat) (ho:Hid (o=Ckr.rdk s (kb:Int) ic fun x=>Ckr.sto s (ka:Int) x)):Calls Try.prog 208 #[.pointer (some ⟨mb,0,none⟩),.agg #[.int .i64 4,.int .i64 ka,.int .i64 kb,.int .i64 ic,.int .i64 in_,.slice ar n cap]] w (AnsR E B0 mb vs vk w o):=by
 have G0:=Lib.hid (Gon.start M);have hmb:=M.mbw;have nbx:¬ mo mb vs vk w.heap.size:=fun hk=>by have:=(M.mo_lo hk).2;omega
 have hxk:=load_ok M kb ic;clear M
 go_enter Try.func208,Try.ntmps208
 go_wp2_with fail
 obtain ⟨W,hW⟩:∃ W,W=w.alloc (.cells #[.int .i64 4,.int .i64 ka,.int .i64 kb,.int .i64 ic,.int .i64 in_,.slice ar n cap] 63):=⟨_,rfl⟩;have hbW:Below w.heap.size w W:=by rw [hW];exact Rd.byB
 have hsW:W.heap.size=w.heap.size+1:=by rw [hW];simp
 have b1:W.cell? ⟨w.heap.size,1,none⟩=some (.int .i64 ka):=by rw [hW];go_simp
 have b2:W.cell? ⟨w.heap.size,2,none⟩=some (.int .i64 kb):=by rw [hW];go_simp
 have b3:W.cell? ⟨w.heap.size,3,none⟩=some (.int .i64 ic):=by rw [hW];go_simp
 replace G0:=Lib.hid (G0.out.below hbW);rw [← hW];clear hW;obtain ⟨⟨xk,xc⟩,hx⟩:∃ x,Hid (loadV s.slots kb ic=x):=⟨_,Lib.hid rfl⟩;rw [hx.out] at hxk hka2;simp only at hka2;obtain ⟨p,hp⟩:∃ p,Hid (loadB s.slots kb ic=p):=⟨_,Lib.hid rfl⟩;have hsz:=hbW.size;refine Drawn.hd (fun w'=>w'.cell? ⟨w.heap.size,1,none⟩=some (.int .i64 ka)∧w'.cell? ⟨w.heap.size,2,none⟩=some (.int .i64 kb)∧w'.cell? ⟨w.heap.size,3,none⟩=some (.int .i64 ic)) (hS:=by (try dsimp only);exact ⟨b1,b2,b3⟩) (h:=fun hHeld=>?_)
 refine dT 0 39 ?_;refine dT 1 40 ?_;refine dT 2 41 ?_;refine dT 3 42 ?_;refine dT 4 43 ?_;refine dT 5 44 ?_;refine dT 6 45 ?_;refine dT 7 46 ?_;refine dT 8 47 ?_;refine dT 9 48 ?_;refine Drawn.cl 10 (fun K hK=>?_);go_simp
 go_at_call 239
 cases p
 ·refine (readF (G0.out.below (by exact Rd.byB)).M P hbig kb ic hkb hp).mono ?_
  rintro e w1 ⟨rfl,hb1⟩;refine And.intro rfl ?_;exact (G0.out.below (Below.trans (by exact Rd.byB) (hb1.mono Rd.byL))).no (ho.out.trans (rdk_f hp.out))
 refine (readT (G0.out.below (by exact Rd.byB)).M P hbig kb ic hkb hx hp).mono ?_
 rintro e w1 ⟨rfl,hb1⟩;replace ho:=Lib.hid (ho.out.trans ((rdk_t hp.out).trans (by rw [hx.out])))
 have hbkW:Below W.heap.size W w1:=Below.trans (by exact Rd.byB) (hb1.mono Rd.byL)
 replace G0:=Lib.hid (G0.out.below hbkW);replace b1:=kept hbkW (cell_lt b1) b1;replace b2:=kept hbkW (cell_lt b2) b2;replace b3:=kept hbkW (cell_lt b3) b3
 go_wp2_with fail
 refine Drawn.bk hK (hS:=by (try dsimp only);exact ⟨b1,b2,b3⟩) (h:=fun hHeld=>?_)
 clear hK K;refine Drawn.cl 11 (fun K hK=>?_);go_simp
 go_at_call 91
 refine (sto G0.out.M P hbig ka ⟨xk,xc⟩ hxk hka (hka2 hp.out)).mono ?_;rintro e w3 ⟨rfl,G3⟩;replace b1:=G3.K.cell b1 nbx;replace b2:=G3.K.cell b2 nbx;replace b3:=G3.K.cell b3 nbx;have G4:=Lib.hid (G0.out.step G3);clear G3
 go_wp2_with fail
 refine Drawn.bk hK (hS:=by (try dsimp only);exact ⟨b1,b2,b3⟩) (h:=fun hHeld=>?_)
 clear hK K;refine dN ?_
 go_wp2
 first | go_end0 | ((try simp only [Exit.inBlock,Exit.then]);refine bodyPost_ret (results_none rfl _ _ _) rfl ?_)
 exact G4.out.yes ho.out
end
end Rck
namespace Rck
open Num Rd D Mem Hpw Flow HierW FormW Sck
section
variable {E:FE}{w w' w0:World}{B0 mb:Nat}{vs vk:Value}{s:State}
theorem fitY (M:MS E w B0 mb vs vk s) (P:Paired s.slots) (hbig:s.slots.length≤1000) (a:Nat) (t:Ty) (ha:a < s.slots.length) (hq:Hid (Ckr.fit1 E.f.classes s a t=true)) :
  Calls Try.prog 248 #[.pointer (some ⟨mb,0,none⟩),.int .i64 a,.agg #[.int .i64 t.kind,.int .i64 t.cls]] w fun e w'=>e=.returned (.tuple #[])∧Below w.heap.size w w':=(fits1 M P hbig a t ha hq).mono fun e w' h=>⟨by rw [h.1,if_pos rfl],h.2⟩
theorem fitN (M:MS E w B0 mb vs vk s) (P:Paired s.slots) (hbig:s.slots.length≤1000) (a:Nat) (t:Ty) (ha:a < s.slots.length) (hq:Hid (Ckr.fit1 E.f.classes s a t=false)) :
  Calls Try.prog 248 #[.pointer (some ⟨mb,0,none⟩),.int .i64 a,.agg #[.int .i64 t.kind,.int .i64 t.cls]] w fun e w'=>e=.panicked [brk]∧Below w.heap.size w w':=(fits1 M P hbig a t ha hq).mono fun e w' h=>⟨by rw [h.1,if_neg (by simp)],h.2⟩
theorem field_cells (M:MS E w B0 mb vs vk s){ka kb:Nat}(h1:ka < E.f.classes.length) (h2:kb < (Hier.at' E.f.classes ka).fields.length) :
  ∃ cb co ccap fb fo fcap,E.vc=.slice (some ⟨cb,co,none⟩) E.f.classes.length ccap∧E.f.classes.length≤ccap∧ccap≤9223372036854775807∧(Hier.at' E.f.classes ka).fields.length≤fcap∧fcap≤9223372036854775807∧cb < B0∧fb < B0 ∧
   w.cell? ⟨cb,co+ka*2+1,none⟩=some (.slice (some ⟨fb,fo,none⟩) (Hier.at' E.f.classes ka).fields.length fcap)∧w.cell? ⟨fb,fo+kb*2,none⟩=some (.int .i64 (Run.ftype E.f.classes ka kb).kind)∧w.cell? ⟨fb,fo+kb*2+1,none⟩=some (.int .i64 (Run.ftype E.f.classes ka kb).cls)∧TOk (Run.ftype E.f.classes ka kb):=by
 obtain ⟨a,ccap,e,c1,c2,hel⟩:=M.cls;obtain ⟨cb,co,rfl,hcb,hs,_,v,hv,hf⟩:=hel ka h1;have ea:Hier.at' E.f.classes ka=E.f.classes[ka]:=by unfold Hier.at';rw [List.getD_eq_getElem?_getD,List.getElem?_eq_getElem h1];rfl
 obtain ⟨fa,fcap,rfl,f1,f2,hef⟩:=hf;rw [ea] at h2 ⊢;obtain ⟨fb,fo,rfl,hfb,g1,g2,g3,g4⟩:=hef kb h2
 have ef:Run.ftype E.f.classes ka kb=E.f.classes[ka].fields[kb]:=by
  unfold Run.ftype;rw [show ((ka:Int)).toNat=ka by omega,show ((kb:Int)).toNat=kb by omega,ea,List.getD_eq_getElem?_getD,List.getElem?_eq_getElem h2];rfl
 rw [ef];exact ⟨cb,co,ccap,fb,fo,fcap,e,c1,c2,f1,f2,hcb,hfb,hv,g1,g2,g3,g4⟩
set_option maxRecDepth 100000 in
theorem handN (M:MS E w B0 mb vs vk s) (ka:Nat) (k:Int){o:Option State}(h1:s.stack.length≠1) (ho:Hid (o=Ckr.hand s (ka:Int) k)) :
  Calls Try.prog 249 #[.pointer (some ⟨mb,0,none⟩),.int .i64 ka,.int .i64 k] w (AnsR E B0 mb vs vk w o):=by
 have G0:=Lib.hid (Gon.start M);have hmb:=M.mbw;have hmb1:mb < w.heap.size+1:=by omega
 have nbx:¬ mo mb vs vk w.heap.size:=fun hk=>by have:=(M.mo_lo hk).2;omega
 have d2:=(M.blk 2 (by simp)).1
 simp only [List.getElem_cons_zero,List.getElem_cons_succ] at d2;obtain ⟨va,vcap,hv⟩:=M.stack.any;rw [hv] at d2;have hl:((s.stack.length:Int)==1)=false:=by simp;omega
 replace ho:=Lib.hid (ho.out.trans (if_neg h1));clear M hv
 go_enter Try.func249,Try.ntmps249
 go_wp2_with (go_at_call 247;refine (mustF _).mono ?_;rintro e w3 ⟨rfl,rfl⟩)
 refine And.intro rfl ?_;exact (G0.out.below (by exact Rd.byB)).no ho.out
set_option maxRecDepth 100000 in
theorem handA (M:MS E w B0 mb vs vk s) (P:Paired s.slots) (hbig:s.slots.length≤1000) (ka:Nat) (k:Int) (hka:ka < s.slots.length){xk xc:Int}(hst:s.stack=[⟨xk,xc⟩]) (hka2:xk=2→ka+1 < s.slots.length){o:Option State}(q:xk=k) (ho:Hid (o=Ckr.sto s (ka:Int) ⟨xk,xc⟩)) :
  Calls Try.prog 249 #[.pointer (some ⟨mb,0,none⟩),.int .i64 ka,.int .i64 k] w (AnsR E B0 mb vs vk w o):=by
 have G0:=Lib.hid (Gon.start M);have hmb:=M.mbw;have hmb1:mb < w.heap.size+1:=by omega
 have nbx:¬ mo mb vs vk w.heap.size:=fun hk=>by have:=(M.mo_lo hk).2;omega
 have d2:=(M.blk 2 (by simp)).1
 simp only [List.getElem_cons_zero,List.getElem_cons_succ] at d2;obtain ⟨g,cap,hv,k1,k2,k3,k4,hcs⟩:=M.stack.form (by rw [hst];simp)
 obtain ⟨z0,z1,_,_⟩:=hcs 0 (by rw [hst];simp)
 rw [hv] at d2;rw [hst] at d2 z0 z1 k1;simp only [List.length_cons,List.length_nil,List.getD_cons_zero,Nat.zero_mul,Nat.zero_add] at d2 z0 z1 k1;have hxk:TOk ⟨xk,xc⟩:=M.stack.2 _ (by rw [hst];simp)
 have g1:g < w.heap.size+1:=by omega
 replace hst:=Lib.hid hst;clear hcs M hv;subst q
 go_enter Try.func249,Try.ntmps249
 go_wp2_with (first | (go_at_call 247;refine (mustT _).mono ?_;rintro e w3 ⟨rfl,rfl⟩) | fail)
 obtain ⟨W,hW⟩:∃ W,W=w.alloc (.cells #[.int .i64 xk,.int .i64 xc] 51):=⟨_,rfl⟩;have b0:W.cell? ⟨w.heap.size,0,none⟩=some (.int .i64 xk):=by rw [hW];go_simp
 have b1:W.cell? ⟨w.heap.size,1,none⟩=some (.int .i64 xc):=by rw [hW];go_simp
 have hbW:Below w.heap.size w W:=by rw [hW];exact Rd.byB
 replace G0:=Lib.hid (G0.out.below hbW)
 first | rw [← hW] | skip
 clear hW
 go_still_tail 5,(by kernel_rfl)
 go_wp2_with fail
 refine (sto (G0.out.M.below (w':=W.drew) (by exact Rd.byB)) P hbig ka ⟨xk,xc⟩ hxk hka hka2).mono ?_
 rintro e w3 ⟨rfl,G3⟩;have G4:=Lib.hid ((G0.out.below (w':=W.drew) (by exact Rd.byB)).step G3)
 clear G3
 go_wp2
 first | go_end0 | ((try simp only [Exit.inBlock,Exit.then]);refine bodyPost_ret (results_none rfl _ _ _) rfl ?_)
 exact G4.out.yes ho.out
set_option maxRecDepth 100000 in
theorem handB (M:MS E w B0 mb vs vk s) (P:Paired s.slots) (hbig:s.slots.length≤1000) (ka:Nat) (k:Int) (hka:ka < s.slots.length){xk xc:Int}(hst:s.stack=[⟨xk,xc⟩]) (hka2:xk=2→ka+1 < s.slots.length){o:Option State}(q:xk=7) (qk:k=3) (ho:Hid (o=Ckr.sto s (ka:Int) ⟨xk,xc⟩)) :
  Calls Try.prog 249 #[.pointer (some ⟨mb,0,none⟩),.int .i64 ka,.int .i64 k] w (AnsR E B0 mb vs vk w o):=by
 have G0:=Lib.hid (Gon.start M);have hmb:=M.mbw;have hmb1:mb < w.heap.size+1:=by omega
 have nbx:¬ mo mb vs vk w.heap.size:=fun hk=>by have:=(M.mo_lo hk).2;omega
 have d2:=(M.blk 2 (by simp)).1
 simp only [List.getElem_cons_zero,List.getElem_cons_succ] at d2;obtain ⟨g,cap,hv,k1,k2,k3,k4,hcs⟩:=M.stack.form (by rw [hst];simp)
 obtain ⟨z0,z1,_,_⟩:=hcs 0 (by rw [hst];simp)
 rw [hv] at d2;rw [hst] at d2 z0 z1 k1;simp only [List.length_cons,List.length_nil,List.getD_cons_zero,Nat.zero_mul,Nat.zero_add] at d2 z0 z1 k1;have hxk:TOk ⟨xk,xc⟩:=M.stack.2 _ (by rw [hst];simp)
 have g1:g < w.heap.size+1:=by omega
 replace hst:=Lib.hid hst;clear hcs M hv;subst q;subst qk
 go_enter Try.func249,Try.ntmps249
 go_wp2_with (first | (go_at_call 247;refine (mustT _).mono ?_;rintro e w3 ⟨rfl,rfl⟩) | fail)
 obtain ⟨W,hW⟩:∃ W,W=w.alloc (.cells #[.int .i64 7,.int .i64 xc] 51):=⟨_,rfl⟩;have b0:W.cell? ⟨w.heap.size,0,none⟩=some (.int .i64 7):=by rw [hW];go_simp
 have b1:W.cell? ⟨w.heap.size,1,none⟩=some (.int .i64 xc):=by rw [hW];go_simp
 have hbW:Below w.heap.size w W:=by rw [hW];exact Rd.byB
 replace G0:=Lib.hid (G0.out.below hbW)
 first | rw [← hW] | skip
 clear hW
 go_still_tail 5,(by kernel_rfl)
 go_wp2_with fail
 refine (sto (G0.out.M.below (w':=W.drew) (by exact Rd.byB)) P hbig ka ⟨7,xc⟩ hxk hka hka2).mono ?_
 rintro e w3 ⟨rfl,G3⟩;have G4:=Lib.hid ((G0.out.below (w':=W.drew) (by exact Rd.byB)).step G3)
 clear G3
 go_wp2
 first | go_end0 | ((try simp only [Exit.inBlock,Exit.then]);refine bodyPost_ret (results_none rfl _ _ _) rfl ?_)
 exact G4.out.yes ho.out
set_option maxRecDepth 100000 in
theorem handC (M:MS E w B0 mb vs vk s) (P:Paired s.slots) (hbig:s.slots.length≤1000) (ka:Nat) (k:Int) (hka:ka < s.slots.length){xk xc:Int}(hst:s.stack=[⟨xk,xc⟩]){o:Option State}(q:xk≠k) (qk:¬ (k=3∧xk=7)) (ho:Hid (o=none)) :
  Calls Try.prog 249 #[.pointer (some ⟨mb,0,none⟩),.int .i64 ka,.int .i64 k] w (AnsR E B0 mb vs vk w o):=by
 have G0:=Lib.hid (Gon.start M);have hmb:=M.mbw;have hmb1:mb < w.heap.size+1:=by omega
 have nbx:¬ mo mb vs vk w.heap.size:=fun hk=>by have:=(M.mo_lo hk).2;omega
 have d2:=(M.blk 2 (by simp)).1
 simp only [List.getElem_cons_zero,List.getElem_cons_succ] at d2;obtain ⟨g,cap,hv,k1,k2,k3,k4,hcs⟩:=M.stack.form (by rw [hst];simp)
 obtain ⟨z0,z1,_,_⟩:=hcs 0 (by rw [hst];simp)
 rw [hv] at d2;rw [hst] at d2 z0 z1 k1;simp only [List.length_cons,List.length_nil,List.getD_cons_zero,Nat.zero_mul,Nat.zero_add] at d2 z0 z1 k1;have g1:g < w.heap.size+1:=by omega
 replace hst:=Lib.hid hst;have q1:(xk==k)=false:=by simpa using q
 clear hcs M hv
 by_cases q3:k=3
 ·subst q3;have q7:(xk==7)=false:=by simpa using qk
  clear q qk
  go_enter Try.func249,Try.ntmps249
  go_wp2_with (go_at_call 247;first | (refine (mustT _).mono ?_;rintro e w3 ⟨rfl,rfl⟩) | (refine (mustF _).mono ?_;rintro e w3 ⟨rfl,rfl⟩))
  refine And.intro rfl ?_;exact (G0.out.below (by exact Rd.byB)).no ho.out
 ·have q4:(k==3)=false:=by simpa using q3
  clear q qk q3
  go_enter Try.func249,Try.ntmps249
  go_wp2_with (go_at_call 247;first | (refine (mustT _).mono ?_;rintro e w3 ⟨rfl,rfl⟩) | (refine (mustF _).mono ?_;rintro e w3 ⟨rfl,rfl⟩))
  refine And.intro rfl ?_;exact (G0.out.below (by exact Rd.byB)).no ho.out
theorem hand_one {k:Int}{a:Int}{x:Ty}(h:s.stack=[x]):Ckr.hand s a k=if Ckr.okH x k then Ckr.sto s a x else none:=by unfold Ckr.hand;rw [h];rfl
theorem hand (M:MS E w B0 mb vs vk s) (P:Paired s.slots) (hbig:s.slots.length≤1000) (ka:Nat) (k:Int) (hka:ka < s.slots.length) (hka2:k=2→ka+1 < s.slots.length){o:Option State}(ho:Hid (o=Ckr.hand s (ka:Int) k)) :
  Calls Try.prog 249 #[.pointer (some ⟨mb,0,none⟩),.int .i64 ka,.int .i64 k] w (AnsR E B0 mb vs vk w o):=by
 by_cases h1:s.stack.length=1
 ·obtain ⟨⟨xk,xc⟩,hst⟩:=List.length_eq_one_iff.1 h1;have hh:=hand_one (k:=k) (a:=(ka:Int)) hst
  by_cases q:xk=k
  ·refine handA M P hbig ka k hka hst (fun e=>hka2 (by omega)) q (Lib.hid (ho.out.trans (hh.trans (if_pos ?_))))
   unfold Ckr.okH;simp [q]
  ·by_cases q2:k=3∧xk=7
   ·refine handB M P hbig ka k hka hst (fun e=>by omega) q2.2 q2.1 (Lib.hid (ho.out.trans (hh.trans (if_pos ?_))))
    unfold Ckr.okH;simp [q2.1,q2.2]
   ·refine handC M P hbig ka k hka hst q q2 (Lib.hid (ho.out.trans (hh.trans (if_neg ?_))));unfold Ckr.okH;simp [q];omega
 ·exact handN M ka k h1 ho
end
end Rck
end Go.Proofs.Ytncmhenfgbcihab
