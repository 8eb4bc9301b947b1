/- Parts of the proof: ChkU, Ts, Fw, Up, UpW, Sa, Sb, Sc, Sd. -/
import Derived.Test.YtncmhenfgbcihabG14
import Derived.Test.YtncmhenfgbcihabG09
import Derived.Test.YtncmhenfgbcihabG01
import Derived.RangeFuncNested
import Derived.RangeFuncBound
import Derived.RangeFuncCalls
import Derived.RangeFuncLeaves
import Derived.RangeFuncFrom
import Derived.Shelf.Abstract
import Derived.OwnWalkIn
import Derived.TacticsInMore
import Derived.LoopNIn
import Derived.LoopIn
import Derived.WalkKit
import Derived.Deep.AppendLies
import Derived.Lib.SliceRun
import Derived.RegionTactic
import Derived.ChangeAlike
import Derived.Deep.RegionHeld3
import Derived.Test.YtncmhenfgbcihabG02
import Derived.IntWalk
set_option linter.unusedSimpArgs false
set_option linter.unusedVariables false
set_option maxHeartbeats 8000000
namespace Go.Proofs.Ytncmhenfgbcihab
open Go.RowKit
namespace Run
open D Num
theorem begin_ok {f:Fi}{entry fuel:Int}{args input:List Int}(h:begin_ f entry args input fuel=0):(0≤entry∧entry < f.methods.length)∧(0≤fuel∧fuel≤60000)∧input.length≤1000∧args.length=(meAt f entry.toNat).params.length∧∀ t∈(meAt f entry.toNat).params,t.kind≠3:=by
 unfold begin_ at h
 split at h
 ·simp at h
 ·split at h
  ·simp at h
  ·split at h
   ·simp at h
   ·rename_i h1 h2 h3
    refine ⟨by omega,by omega,by omega,?_,fun t ht e=>h3 (.inr ?_)⟩
    ·exact Decidable.of_not_not fun q=>h3 (.inl q)
    ·rw [List.any_eq_true];exact ⟨t,ht,by simpa using e⟩
theorem argOf_ok {t:Ty}{n nc:Int}(ht:Hier.ty nc t=true) (h3:t.kind≠3) (hn:Ok n) (k:Nat):VtOk k (argOf t n)∧(argOf t n).kind=t.kind:=by
 unfold Hier.ty at ht;unfold argOf
 split at ht
 ·rename_i e
  by_cases e1:t.kind=1
  ·rw [if_pos e1];exact ⟨⟨⟨wrap32_ok n,by simp,by simp,by simp⟩,by simp,by simp⟩,e1.symm⟩
  ·rw [if_neg e1];refine ⟨⟨⟨hn,?_,?_,?_⟩,?_,?_⟩,rfl⟩ <;> simp only <;> omega
 ·exact absurd ht (by simp [h3])
theorem args_ok {nc:Int}(l:List Cls) (h:Hp) (k:Nat):∀ (ts:List Ty) (args:List Int),(∀ t∈ts,Hier.ty nc t=true)→(∀ t∈ts,t.kind≠3)→(∀ n∈args,Ok n)→args.length=ts.length →
  (List.zipWith argOf ts args).length=ts.length∧(∀ v∈List.zipWith argOf ts args,VtOk k v)∧allOf l h (List.zipWith argOf ts args) ts=true:=by
 intro ts
 induction ts with
 | nil=>intro args _ _ _ hl;cases args with
  | nil=>exact ⟨rfl,fun v hv=>(by cases hv),rfl⟩
  | cons n args=>simp at hl
 | cons t ts ih =>
  intro args ht h3 hn hl
  cases args with
  | nil=>simp at hl
  | cons n args =>
   obtain ⟨q1,q2,q3⟩:=ih args (fun x hx=>ht x (by simp [hx])) (fun x hx=>h3 x (by simp [hx])) (fun x hx=>hn x (by simp [hx])) (by simpa using hl)
   obtain ⟨p1,p2⟩:=argOf_ok (ht t (by simp)) (h3 t (by simp)) (hn n (by simp)) k
   refine ⟨by simpa using q1,fun v hv=>?_,?_⟩
   ·simp only [List.zipWith_cons_cons,List.mem_cons] at hv
    rcases hv with e | hv
    ·subst e;exact p1
    ·exact q2 v hv
   ·simp only [List.zipWith_cons_cons,allOf,Bool.and_eq_true];refine ⟨?_,q3⟩;unfold ofT;simp [p2,h3 t (by simp)]
def hp0:Hp:=⟨[],[],0,0⟩
theorem hp0_ok (l:List Cls) (input:List Int) (fuel:Nat):HpOk l input fuel hp0:=⟨Nat.zero_le _,(fun o ho=>by cases ho),(fun x hx=>by cases hx),Nat.le_refl _,Nat.zero_le _,Nat.zero_le _⟩
theorem hp0_typed (l:List Cls):Typed l hp0:=fun o ho=>by cases ho
theorem play_safe {Fr:Type}{M:Mach Fr}{FrOk:Me→Nat→Fr→Prop}{FrT:Me→Hp→Fr→Prop}{f:Fi}{entry:Int}{args input:List Int}{fuel:Int}(K:MachOk M FrOk f input fuel.toNat) (T:MachT M FrOk FrT f input fuel.toNat)
  (hp:∀ m∈f.methods,∀ t∈m.params,Hier.ty f.classes.length t=true) (ha:∀ n∈args,Ok n):(play M f entry args input fuel).1.fin≠6:=by
 unfold play
 by_cases hb:begin_ f entry args input fuel=0
 ·rw [if_neg (by simpa using hb)]
  obtain ⟨h1,h2,h3,h4,h5⟩:=begin_ok hb;have hm:=meAt_mem (f:=f) (k:=entry.toNat) (by omega)
  obtain ⟨q1,q2,q3⟩:=args_ok f.classes hp0 0 _ args (hp _ hm) h5 ha h4
  have:=call_safe K T (fuel.toNat+1) 0 (meAt f entry.toNat) _ hp0 hm (hp0_ok _ _ _) (hp0_typed _) q2 q1 q3
  simp only;unfold hp0 at this
  revert this
  cases call M f input fuel.toNat (fuel.toNat+1) 0 (meAt f entry.toNat) (List.zipWith argOf (meAt f entry.toNat).params args) ⟨[],[],0,0⟩ with
  | ok v h=>intro _;simp [shown]
  | thrown o h=>intro _;simp [shown]
  | stop e h=>intro hc;exact hc
 ·rw [if_pos hb];simp [Sh.nil]
end Run
namespace Chk
open D Num Flow
open Run (Vl Hp Sf Ext Typed ofT obj VtOk VlOk Res MeS FiS InS meAt HpOk SfOk)
def FrT (f:Fi) (m:Me) (h:Hp) (fr:Sf):Prop:=∃ s,(final f m).states.getD fr.at_ none=some s∧Γ f.classes s (h,fr)
section
variable {f:Fi}{m:Me}
theorem final_ok (S:FiS f) (hm:m∈f.methods):RunOk f.classes.length m.locals.toNat m.stack.toNat m.code.length (final f m):=iter_ok S.may (one_ok S hm) _ (run0_ok S hm)
theorem final_held (S:FiS f) (hm:m∈f.methods):(∀ k s,(run0 f m).states.getD k none=some s→Cov (Γ f.classes) (final f m) k s) ∧
  ∀ k s,(final f m).states.getD k none=some s→((one f m k s).1=true∨(final f m).bad=true)∧∀ p∈(one f m k s).2,p.1 < m.code.length→Cov (Γ f.classes) (final f m) p.1 p.2:=fin_held (Γ f.classes) S.may (meets S.may m.locals.toNat m.stack.toNat) (one_ok S hm) (run0_ok S hm) (fun k s hs=>by
 rw [run0_is S hm] at hs ⊢
 left
 have hc:=(S.mes m hm).code;simp only at hs;rw [getD_setO _ _ _ _ (by simp;omega)] at hs
 split at hs
 ·rename_i e;simp [e]
 ·rw [List.getD_eq_getElem?_getD,List.getElem?_replicate] at hs
  split at hs <;> cases hs)
theorem final_start (S:FiS f) (hm:m∈f.methods):Cov (Γ f.classes) (final f m) 0 (start m):=(final_held S hm).1 0 (start m) (by
 rw [run0_is S hm];have hc:=(S.mes m hm).code;simp only
 rw [getD_setO _ _ _ _ (by simp;omega),if_pos rfl])
theorem final_of (S:FiS f) (hm:m∈f.methods) (hok:okMe f m=true){k:Nat}{s:State}(hs:(final f m).states.getD k none=some s) :
  k < m.code.length∧Gd f.classes.length m.locals.toNat m.stack.toNat s∧∃ s',does f m (insAt m k) s=some s'∧(∀ j∈nexts (insAt m k) k,Cov (Γ f.classes) (final f m) j s')∧∀ x∈m.handlers,covers x k=true→Cov (Γ f.classes) (final f m) x.go.toNat (hstate m s true x):=by
 have R:=final_ok S hm;have hk:k < m.code.length:=by have:=getD_lt hs;rw [R.1] at this;exact this
 obtain ⟨h1,h2⟩:=(final_held S hm).2 k s hs;have hbad:(final f m).bad=false:=by unfold okMe at hok;simpa using hok
 have h1:(goes f m k s).isSome=true:=by
  rcases h1 with h1 | h1
  ·exact h1
  ·exact absurd h1 (by rw [hbad];simp)
 obtain ⟨s',hg⟩:=Option.isSome_iff_exists.1 h1;obtain ⟨g1,g2,g3⟩:=goes_some hg;refine ⟨hk,gd_of (R.2.1 k s hs) g1,s',g2,fun j hj=>?_,fun x hx hc=>?_⟩
 ·refine h2 (j,s') ?_ (g3 j hj);unfold one;simp only [hg,Option.getD_some];exact List.mem_append.2 (.inl (List.mem_map.2 ⟨j,hj,rfl⟩))
 ·have hh:=(S.mes m hm).hds.2 x hx;simp only [Form.hd,Bool.and_eq_true,Run.rng_iff] at hh;refine h2 (x.go.toNat,hstate m s true x) ?_ (by omega)
  unfold one;simp only [hg,Option.isSome_some];exact List.mem_append.2 (.inr (List.mem_map.2 ⟨x,by simp [hx,hc],rfl⟩))
theorem hand (S:FiS f) (hm:m∈f.methods) (hok:okMe f m=true){k:Nat}{s:State}(hs:(final f m).states.getD k none=some s){x:Hd}(hx:x∈m.handlers) (hc:covers x k=true):1≤m.stack∧Cov (Γ f.classes) (final f m) x.go.toNat ⟨s.slots,[⟨3,x.cls⟩],false⟩:=by
 have hcv:=(final_of S hm hok hs).2.2.choose_spec.2.2 x hx hc;have hst:=(S.mes m hm).stack
 by_cases h0:m.stack=0
 ·exfalso;unfold hstate at hcv;rw [if_pos (.inr h0)] at hcv;obtain ⟨z,hz,hle⟩:=hcv;have hlive:=(final_of S hm hok hz).2.1.live
  have:=hle (⟨[],[],0,0⟩,⟨[],List.replicate (z.stack.length+1) Vl.nil,0⟩) (fun e=>by cases e) hlive
  have:=this.stk.len
  simp at this
 ·unfold hstate at hcv;rw [if_neg (by simp [h0])] at hcv
  exact ⟨by omega,hcv⟩
theorem gam {h:Hp}{fr:Sf}{s:State}(F:Fit f.classes h s fr):Γ f.classes s (h,fr):=fun _=>F
theorem cov_fr {j:Nat}{s:State}(c:Cov (Γ f.classes) (final f m) j s){h:Hp}{fr:Sf}(F:Fit f.classes h s fr) (e:fr.at_=j):FrT f m h fr:=by
 obtain ⟨z,h1,h2⟩:=c;exact ⟨z,by rw [e];exact h1,h2 _ (gam F)⟩
theorem thr (S:FiS f) (hm:m∈f.methods) (hok:okMe f m=true){fr fr':Sf}{h h2:Hp}(e1:fr'.at_=fr.at_) (e2:fr'.loc=fr.loc) (hf:SfOk m h.objs.length fr) (hft:FrT f m h fr) (E:Ext h h2):Run.ThrT Run.SM (FrT f) f m h2 fr':=by
 intro h3 o E2 ho
 obtain ⟨s,hs,hg⟩:=hft;obtain ⟨hk,G,_⟩:=final_of S hm hok hs;have F:=hg G.live
 cases hh:Run.handler f.classes m (Run.SM.at_ fr') (obj h3 o).cls with
 | none =>
  have ea:Run.after Run.SM f m fr' o h3=.thrown:=by unfold Run.after;rw [hh]
  rw [ea];exact ⟨fun e=>(by cases e),fun fr2 e=>(by cases e)⟩
 | some x =>
  have hx:=List.mem_of_find?_eq_some hh;have hp:=List.find?_some hh;simp only [Bool.and_eq_true,decide_eq_true_eq] at hp;have hat:Run.SM.at_ fr'=fr.at_:=e1;rw [hat] at hp;obtain ⟨hst,cv⟩:=hand S hm hok hs hx (by unfold covers;simp only [Bool.and_eq_true,decide_eq_true_eq];exact hp.1)
  have hcaught:Run.SM.caught m fr' x.go.toNat o=some (Run.on fr' [⟨3,o⟩] x.go.toNat):=if_pos hst;have ea:Run.after Run.SM f m fr' o h3=.go (Run.on fr' [⟨3,o⟩] x.go.toNat):=by unfold Run.after;rw [hh];simp only;rw [hcaught]
  rw [ea];refine ⟨fun e=>(by cases e),fun fr2 e=>?_⟩
  injection e with e
  subst e;refine cov_fr cv ⟨?_,⟨gs_ref rfl (.inr hp.2),trivial⟩⟩ rfl
  show GLs f.classes h3 s.slots fr'.loc
  rw [e2];exact F.loc.ext (E.trans E2) hf.loc.vals
theorem tstores_sim {l:List Cls}{h:Hp}{nc:Int}{n:Nat}:∀ (ts:List Ty) (vs:List Vl) (xs:List Ty) (loc:List Vl) (a:Nat),vs.length=ts.length→Run.allOf l h vs ts=true→(∀ t∈ts,Hier.ty nc t=true)→(∀ v∈vs,VtOk n v)→a+Form.slots ts≤xs.length→GLs l h xs loc→Paired xs→Run.SlotsOk n loc →
  GLs l h (tstores xs a ts) (Run.stores loc a vs):=by
 intro ts
 induction ts with
 | nil=>intro vs xs loc a hl _ _ _ _ g _ _;cases vs with
  | nil=>exact g
  | cons v vs=>simp at hl
 | cons t ts ih =>
  intro vs xs loc a hl hall ht hv hr g p q
  cases vs with
  | nil=>simp at hl
  | cons v vs =>
   simp only [Run.allOf,Bool.and_eq_true] at hall;have hk:=Run.of_kind hall.1
   have hty:t.kind=1∨t.kind=2∨t.kind=3:=by
    have:=ht t (by simp)
    unfold Hier.ty at this
    split at this
    ·omega
    ·split at this
     ·omega
     ·cases this
   have gs:=gs_of hall.1 hty;rw [Form.slots] at hr;have hll:=g.1;rw [tstores,Run.stores];have hw:Run.width v=if t.kind=2 then 2 else 1:=by unfold Run.width;rw [hk]
   rw [hw];have ha:a < xs.length:=by split at hr <;> omega
   have ha2:t.kind=2→a+1 < xs.length:=fun e=>by rw [if_pos e] at hr;omega
   refine ih vs _ _ _ (by simpa using hl) hall.2 (fun x hx=>ht x (by simp [hx])) (fun x hx=>hv x (by simp [hx])) (by rw [store_len];omega) (store_sim g p q.pair a gs) (store_paired p (by omega) ha ha2) (Run.store_ok q (hv v (by simp)) (by omega) (fun e=>by have:=ha2 (by omega);omega))
theorem machT (S:FiS f) (hok:∀ m∈f.methods,okMe f m=true) (input:List Int) (fuel:Nat):Run.MachT Run.SM SfOk (FrT f) f input fuel:=by
 refine ⟨fun m hm fr h H ho T hf hft=>?_,fun m hm fr h hf hft=>thr S hm (hok m hm) rfl rfl hf hft (Ext.refl h),fun m hm h args hv hl hall=>?_,fun m hm fr h h' hf E hft=>?_⟩
 ·obtain ⟨s,hs,hg⟩:=id hft;obtain ⟨hk,G,s',hd,hn,_⟩:=final_of S hm (hok m hm) hs;have F:=hg G.live;have M:=S.mes m hm;have hi:=insAt_mem hk;refine ⟨insAt m fr.at_,hi.2,?_⟩
  have:=sim (input:=input) S M (M.ins _ hi.1) H T hf G F hd
  show Run.ActT Run.SM (FrT f) f m h (Run.sstep f input m (insAt m fr.at_) fr h)
  revert this
  cases Run.sstep f input m (insAt m fr.at_) fr h with
  | go fr2 h2=>rintro ⟨a1,a2,a3,a4⟩;exact ⟨a1,a2,cov_fr (hn _ a3) a4 rfl⟩
  | back v h2=>exact id
  | thrown o h2=>exact id
  | stop e h2=>exact id
  | call k args fr2 h2 =>
   rintro ⟨a1,a2,a3,a4,a5,a6⟩;refine ⟨a1,a2,a3,thr S hm (hok m hm) a4 a5 hf hft a1,fun v h3 E hr ht=>?_⟩;obtain ⟨fr3,b1,b2,b3⟩:=a6 v h3 E ht;exact ⟨fr3,b1,cov_fr (hn _ b2) b3 rfl⟩
 ·have M:=S.mes m hm;have hlo:=M.locals;refine cov_fr (final_start S hm) ⟨?_,trivial⟩ rfl;refine tstores_sim (n:=h.objs.length) m.params args _ _ 0 hl hall M.params.2 hv (by simp;omega) ⟨by simp,fun i=>?_⟩ (none_paired _) (Run.fresh_ok _ _)
  have e:(List.replicate m.locals.toNat none_).getD i none_=none_:=by
   rw [List.getD_eq_getElem?_getD,List.getElem?_replicate];split <;> rfl
  unfold kd;rw [e];exact ⟨gv_none _,by simp [none_]⟩
 ·obtain ⟨s,hs,hg⟩:=hft;exact ⟨s,hs,fun hb=>⟨(hg hb).loc.ext E hf.loc.vals,(hg hb).stk.ext E hf.stk⟩⟩
theorem safe (h:Form.smay f=true) (hn:∀ m∈f.methods,∀ i∈m.code,Ok i.n) (hok:∀ m∈f.methods,okMe f m=true) (entry:Int) (args input:List Int) (fuel:Int) (ha:∀ n∈args,Ok n) (hin:∀ n∈input,Ok n):(Run.play Run.SM f entry args input fuel).1.fin≠6 :=
 Run.play_safe (Run.sm_ok (Run.fiS_of h) hn hin) (machT (Run.fiS_of h) hok input fuel.toNat) (fun m hm=>((Run.fiS_of h).mes m hm).params.2) ha
end
end Chk
namespace Sck
open Num Rd D Mem Hpw Flow HierW
abbrev Vl:=Run.Vl
def tv (t:Ty):Vl:=⟨t.kind,t.cls⟩
def TOk (t:Ty):Prop:=Ok t.kind∧Ok t.cls
def TsOk (l:List Ty):Prop:=∀ t∈l,TOk t
theorem tok_none:TOk none_:=⟨by unfold Ok none_;simp only;omega,by unfold Ok none_;simp only;omega⟩
theorem TsOk.set {l:List Ty}(h:TsOk l){t:Ty}(ht:TOk t) (i:Nat):TsOk (l.set i t):=fun y hy=>by
 rcases List.mem_or_eq_of_mem_set hy with e | e
 ·exact h y e
 ·subst e;exact ht
theorem TsOk.getD {l:List Ty}(h:TsOk l) (i:Nat):TOk (l.getD i none_):=by
 by_cases hi:i < l.length
 ·rw [List.getD_eq_getElem?_getD,List.getElem?_eq_getElem hi];exact h _ (List.getElem_mem hi)
 ·rw [List.getD_eq_getElem?_getD,List.getElem?_eq_none (by omega)];exact tok_none
theorem TsOk.lose {l:List Ty}(h:TsOk l) (a:Nat):TsOk (lose l a):=by
 unfold Flow.lose
 split
 ·exact (h.set tok_none _).set tok_none _
 ·split
  ·exact (h.set tok_none _).set tok_none _
  ·exact h.set tok_none _
theorem TsOk.store {l:List Ty}(h:TsOk l){x:Ty}(hx:TOk x) (a:Nat):TsOk (Flow.store l a x):=by
 unfold Flow.store
 split
 ·exact (h.lose a).set hx _
 ·exact (((h.lose a).lose _).set ⟨by unfold Ok;simp only;omega,by unfold Ok;simp only;omega⟩ _).set ⟨by unfold Ok;simp only;omega,by unfold Ok;simp only;omega⟩ _
theorem TsOk.dropLast {l:List Ty}(h:TsOk l):TsOk l.dropLast:=fun y hy=>h y (List.dropLast_subset _ hy)
theorem TsOk.rep (n:Nat):TsOk (List.replicate n none_):=fun y hy=>by rw [(List.mem_replicate.1 hy).2];exact tok_none
def tcells (l:List Ty):List Value:=vcells (l.map tv)
theorem tcells_len (l:List Ty):(tcells l).length=l.length*2:=by unfold tcells;rw [vcells_len,List.length_map]
theorem tcells_append (l m:List Ty):tcells (l++m)=tcells l++tcells m:=by unfold tcells;rw [List.map_append,vcells_append]
theorem tcells_set (l:List Ty) (i:Nat) (t:Ty):tcells (l.set i t)=((tcells l).set (i*2) (.int .i64 t.kind)).set (i*2+1) (.int .i64 t.cls):=by
 unfold tcells;rw [List.map_set,vcells_set];rfl
theorem tcells_get {l:List Ty}{i:Nat}(hi:i < l.length):(tcells l)[i*2]? = some (.int .i64 (l.getD i none_).kind)∧(tcells l)[i*2+1]? = some (.int .i64 (l.getD i none_).cls):=by
 have h:=vcells_get (l.map tv) i (by simpa using hi)
 have e:(l.map tv).getD i Run.Vl.nil=tv (l.getD i none_):=by
  rw [List.getD_eq_getElem?_getD,List.getD_eq_getElem?_getD,List.getElem?_map,List.getElem?_eq_getElem hi];rfl
 rw [e] at h;exact h
theorem tcells_take (l:List Ty) (n:Nat) (hn:n≤l.length):tcells (l.take n)=(tcells l).take (n*2):=by
 have e:tcells l=tcells (l.take n)++tcells (l.drop n):=by rw [← tcells_append,List.take_append_drop]
 have hl:(tcells (l.take n)).length=n*2:=by rw [tcells_len,List.length_take,Nat.min_eq_left hn]
 rw [e,List.take_append_of_le_length (by omega)]
 exact (List.take_of_length_le (Nat.le_of_eq hl)).symm
def TS (w:World) (X:Nat→Prop) (v:Value) (l:List Ty):Prop:=VS w X v (l.map tv)∧TsOk l
section
variable {w w':World}{X X' Y:Nat→Prop}{v:Value}{l:List Ty}
theorem TS.next (h:TS w X v l) (hk:Kp Y w w') (hY:∀ b,b < w.heap.size→Y b→X b) (hX:∀ b,b < w.heap.size→X' b→X b):TS w' X' v l:=⟨h.1.next hk hY hX,h.2⟩
theorem TS.below (h:TS w X v l) (hb:Below w.heap.size w w') (hX:∀ b,b < w.heap.size→X' b→X b):TS w' X' v l:=h.next (Kp.of_below (X:=fun _=>False) hb (Nat.le_refl _)) (fun _ _ e=>e.elim) hX
theorem TS.nil (w:World) (X:Nat→Prop):TS w X (.slice none 0 0) []:=⟨VS.nil w X,fun t ht=>by cases ht⟩
theorem TS.len (h:TS w X v l):∃ a cap,v=.slice a l.length cap∧l.length≤cap∧cap≤9223372036854775807:=by
 obtain ⟨a,cap,e,h1,h2⟩:=h.1.len;rw [List.length_map] at e h1;exact ⟨a,cap,e,h1,h2⟩
theorem TS.cells (h:TS w X v l) (h0:0 < l.length):∃ b o cap,v=.slice (some ⟨b,o,none⟩) l.length cap∧l.length≤cap∧cap≤9223372036854775807∧b < w.heap.size∧¬ X b ∧
  ∀ i,i < l.length→w.cell? ⟨b,o+i*2,none⟩=some (.int .i64 (l.getD i none_).kind)∧w.cell? ⟨b,o+i*2+1,none⟩=some (.int .i64 (l.getD i none_).cls):=by
 obtain ⟨b,o,cap,e,h1,h2,h3,h4,h5⟩:=h.1.form (by simpa using h0)
 rw [List.length_map] at e h1;refine ⟨b,o,cap,e,h1,h2,h3,h4,fun i hi=>?_⟩
 have:=h5 i (by simpa using hi)
 rw [List.getElem_map] at this;rw [List.getD_eq_getElem?_getD,List.getElem?_eq_getElem hi];exact this
theorem TS.sl (h:TS w X v l):Sl 2 ETy w w.heap.size v l:=by
 obtain ⟨a,cap,e,h1,h2⟩:=h.len;refine ⟨a,cap,e,h1,h2,fun i hi=>?_⟩;obtain ⟨b,o,cap2,e2,_,_,h3,_,h5⟩:=h.cells (by omega)
 rw [e] at e2;simp only [Value.slice.injEq] at e2;obtain ⟨e3,_,_⟩:=e2;refine ⟨b,o,e3,h3,?_⟩
 have:=h5 i hi
 rw [List.getD_eq_getElem?_getD,List.getElem?_eq_getElem hi] at this;exact ⟨this.1,this.2,(h.2 _ (List.getElem_mem hi)).1,(h.2 _ (List.getElem_mem hi)).2⟩
def TR (w:World) (base:Nat) (v:Value) (l:List Ty):Prop:=w.ownsRow base 51 2 v l.length (tcells l)∧TsOk l
variable {base:Nat}
theorem of_row {T:TypeId}{X:Nat→Prop}{v:Value}{l:List Vl}(H:w.ownsRow base T 2 v l.length (vcells l)) (hX:∀ g,v.ownBlock=some g→¬ X g):VS w X v l:=by
 by_cases h0:0 < l.length
 ·obtain ⟨g,cap,hv,c1,c2,c3,c4⟩:=row_form H h0;rw [hv] at H ⊢;refine ⟨_,cap,rfl,c1,c2,fun i hi=>⟨g,0,rfl,hX g (by rw [hv];rfl),?_,?_⟩⟩
  ·have:=row_cell H (vcells_get l i hi).1
   rw [Nat.zero_add,this,List.getD_eq_getElem?_getD,List.getElem?_eq_getElem hi];rfl
  ·have:=row_cell H (vcells_get l i hi).2
   rw [Nat.zero_add,this,List.getD_eq_getElem?_getD,List.getElem?_eq_getElem hi];rfl
 ·have hl:l=[]:=List.eq_nil_of_length_eq_zero (by omega)
  subst hl;obtain ⟨a,cap,hv⟩:=row_any H
  rcases H.2 with ⟨hn,_⟩ | ⟨g,cap',cur,hv',_,_,_,hm,_⟩
  ·rw [hn];exact VS.nil _ _
  ·rw [hv'];exact VS.zero (by unfold maxLen at hm;exact hm)
theorem TR.ts (h:TR w base v l) (hX:∀ g,v.ownBlock=some g→¬ X g):TS w X v l:=⟨of_row (by rw [List.length_map];exact h.1) hX,h.2⟩
theorem TR.keep (h:TR w base v l) (hk:Kp X w w') (hX:∀ g,v.ownBlock=some g→¬ X g):TR w' base v l:=⟨row_keep h.1 hk hX,h.2⟩
theorem TR.below (h:TR w base v l) (hb:Below w.heap.size w w'):TR w' base v l:=h.keep (X:=fun _=>False) (Kp.of_below hb (Nat.le_refl _)) (fun _ _ e=>e)
theorem TR.lt (h:TR w base v l){g:Nat}(hg:v.ownBlock=some g):base≤g∧g < w.heap.size:=World.ownsRow.lt h.1 g hg
theorem TR.low {b2:Nat}(h:TR w base v l) (hb:b2≤base):TR w b2 v l:=by
 refine ⟨⟨h.1.1,?_⟩,h.2⟩
 rcases h.1.2 with e | ⟨g,cap,cur,e,hg,rest⟩
 ·exact .inl e
 ·exact .inr ⟨g,cap,cur,e,Nat.le_trans hb hg,rest⟩
theorem TR.form (h:TR w base v l) (h0:0 < l.length):∃ g cap,v=.slice (some ⟨g,0,none⟩) l.length cap∧l.length≤cap∧cap≤9223372036854775807∧base≤g∧g < w.heap.size ∧
  ∀ i,i < l.length→w.cell? ⟨g,i*2,none⟩=some (.int .i64 (l.getD i none_).kind)∧w.cell? ⟨g,i*2+1,none⟩=some (.int .i64 (l.getD i none_).cls)∧w.frozen? ⟨g,i*2,none⟩=false∧w.frozen? ⟨g,i*2+1,none⟩=false:=by
 obtain ⟨g,cap,e,h1,h2,h3,h4⟩:=row_form h.1 h0;have H:=h.1;rw [e] at H;refine ⟨g,cap,e,h1,h2,h3,h4,fun i hi=>⟨row_cell H (tcells_get hi).1,row_cell H (tcells_get hi).2,row_free H,row_free H⟩⟩
theorem TR.any (h:TR w base v l):∃ a cap,v=.slice a l.length cap:=row_any h.1
theorem TR.set {g cap:Nat}(h:TR w base (.slice (some ⟨g,0,none⟩) l.length cap) l){i:Nat}(hi:i < l.length){t:Ty}(ht:TOk t) :
  TR ((w.setCell ⟨g,i*2,none⟩ (.int .i64 t.kind)).setCell ⟨g,i*2+1,none⟩ (.int .i64 t.cls)) base (.slice (some ⟨g,0,none⟩) l.length cap) (l.set i t):=by
 refine ⟨?_,h.2.set ht i⟩;have hl:=tcells_len l
 have:=row_set (row_set h.1 (j:=i*2) (by omega) (.int .i64 t.kind)) (j:=i*2+1) (by simp;omega) (.int .i64 t.cls)
 rw [List.length_set,tcells_set];exact this
theorem row_take {T:TypeId}{size n:Nat}{a:Option Addr}{cap:Nat}{xs:List Value}(h:w.ownsRow base T size (.slice a n cap) n xs){k:Nat}(hk:k≤n):w.ownsRow base T size (.slice a k cap) k (xs.take (k*size)):=by
 have hkn:=Nat.mul_le_mul_right size hk;refine ⟨by rw [List.length_take,h.1,Nat.min_eq_left hkn],?_⟩
 rcases h.2 with ⟨hv,h0⟩ | ⟨g,cap',cur,hv,hb,hg,h1,h2,h3,h4⟩
 ·have:k=0:=by omega
  subst this;simp only [Value.slice.injEq] at hv;obtain ⟨rfl,_,rfl⟩:=hv;exact .inl ⟨rfl,rfl⟩
 ·simp only [Value.slice.injEq] at hv;obtain ⟨rfl,_,rfl⟩:=hv;refine .inr ⟨g,cap,cur,rfl,hb,hg,by omega,h2,h3,?_⟩
  rw [← h4,List.take_take,Nat.min_eq_left hkn]
theorem TR.take {a:Option Addr}{cap:Nat}(h:TR w base (.slice a l.length cap) l){k:Nat}(hk:k≤l.length):TR w base (.slice a k cap) (l.take k):=by
 refine ⟨?_,fun t ht=>h.2 t (List.take_subset _ _ ht)⟩;rw [List.length_take,Nat.min_eq_left hk,tcells_take l k hk];exact row_take h.1 hk
def VSt (w:World) (X:Nat→Prop) (v:Value) (s:State):Prop:=∃ vs vk,v=.agg #[vs,vk,.bool s.broken]∧TS w X vs s.slots∧TS w X vk s.stack
theorem VSt.next {s:State}(h:VSt w X v s) (hk:Kp Y w w') (hY:∀ b,b < w.heap.size→Y b→X b) (hX:∀ b,b < w.heap.size→X' b→X b):VSt w' X' v s:=by
 obtain ⟨vs,vk,e,h1,h2⟩:=h;exact ⟨vs,vk,e,h1.next hk hY hX,h2.next hk hY hX⟩
theorem VSt.below {s:State}(h:VSt w X v s) (hb:Below w.heap.size w w') (hX:∀ b,b < w.heap.size→X' b→X b):VSt w' X' v s:=h.next (Kp.of_below (X:=fun _=>False) hb (Nat.le_refl _)) (fun _ _ e=>e.elim) hX
theorem VSt.bad (w:World) (X:Nat→Prop):VSt w X (.agg #[.slice none 0 0,.slice none 0 0,.bool true]) State.bad:=⟨_,_,rfl,TS.nil w X,TS.nil w X⟩
end
end Sck
namespace Sck
open Num Rd D Mem Hpw Flow HierW
structure FE where
 f:Fi
 m:Me
 B:Nat
 vc:Value
 vm:Value
 vp:Value
 vd:Value
 vh:Value
 fb:Nat
 cb:Nat
 sb:Nat
def zone (E:FE) (vw:Value) (k:Nat):Prop:=k=E.fb∨k=E.cb∨k=E.sb∨vw.ownBlock=some k
def meV (E:FE):List Value:=[E.vp,.int .i64 E.m.ret.kind,.int .i64 E.m.ret.cls,.int .i64 E.m.stack,.int .i64 E.m.locals,.int .i64 E.m.regs,E.vd,E.vh]
def ccells (E:FE) (bad:Bool):List Value:=[.pointer (some ⟨E.fb,0,none⟩),E.vc,E.vm]++meV E++[.bool bad]
def PSt (w:World) (X:Nat→Prop) (v:Value):Option State→Prop
 | none=>v=.pointer none
 | some s=>∃ pb va vb,v=.pointer (some ⟨pb,0,none⟩)∧¬ X pb∧w.cell? ⟨pb,0,none⟩=some va∧w.cell? ⟨pb,1,none⟩=some vb∧w.cell? ⟨pb,2,none⟩=some (.bool s.broken)∧TS w X va s.slots∧TS w X vb s.stack
def wcells (l:List Nat):List Value:=l.map fun (n:Nat)=>Value.int .i64 (n:Int)
structure Fw (E:FE) (w:World) (vw:Value) (R:Flow.Run):Prop where
 cls:Sl 2 ECls w E.B E.vc E.f.classes
 mes:Sl 8 EMe w E.B E.vm E.f.methods
 par:Sl 2 ETy w E.B E.vp E.m.params
 code:Sl 6 EIns w E.B E.vd E.m.code
 hands:Sl 4 EHd w E.B E.vh E.m.handlers
 oks:Ok E.m.ret.kind∧Ok E.m.ret.cls∧Ok E.m.stack∧Ok E.m.locals∧Ok E.m.regs
 fl:Blk w E.fb [E.vc,.slice (some ⟨E.sb,0,none⟩) R.states.length R.states.length,vw]
 ck:Blk w E.cb (ccells E R.bad)
 st:∀ k,k < R.states.length→∃ v,w.cell? ⟨E.sb,k,none⟩=some v∧w.frozen? ⟨E.sb,k,none⟩=false∧PSt w (zone E vw) v (R.states.getD k none)
 wk:w.ownsRow E.B 3 1 vw R.work.length (wcells R.work)
 lo:E.B≤E.fb∧E.B≤E.cb∧E.B≤E.sb
 ne:E.fb≠E.cb∧E.fb≠E.sb∧E.cb≠E.sb
 far:∀ g,vw.ownBlock=some g→g≠E.fb∧g≠E.cb∧g≠E.sb
 some_:0 < R.states.length∧R.states.length≤9223372036854775807
section
variable {E:FE}{w w':World}{vw:Value}{R:Flow.Run}{X Y X':Nat→Prop}{v:Value}
theorem PSt.next {o:Option State}(h:PSt w X v o) (hk:Kp Y w w') (hY:∀ b,b < w.heap.size→Y b→X b) (hX:∀ b,b < w.heap.size→X' b→X b):PSt w' X' v o:=by
 cases o with
 | none=>exact h
 | some s =>
  obtain ⟨pb,va,vb,e,hx,c0,c1,c2,t1,t2⟩:=h;have hlt:=cell_lt c0;have hn:¬ Y pb:=fun e=>hx (hY pb hlt e);exact ⟨pb,va,vb,e,fun e=>hx (hX pb hlt e),hk.cell c0 hn,hk.cell c1 hn,hk.cell c2 hn,t1.next hk hY hX,t2.next hk hY hX⟩
theorem zone_lo (F:Fw E w vw R){k:Nat}(hk:zone E vw k):E.B≤k∧k < w.heap.size:=by
 rcases hk with e | e | e | e
 ·subst e;exact ⟨F.lo.1,cell_lt (F.fl 0 (by simp)).1⟩
 ·subst e;exact ⟨F.lo.2.1,cell_lt (F.ck 0 (by simp [ccells,meV])).1⟩
 ·subst e;obtain ⟨v,c,_⟩:=F.st 0 F.some_.1;exact ⟨F.lo.2.2,cell_lt c⟩
 ·exact World.ownsRow.lt F.wk k e
theorem Fw.base (F:Fw E w vw R):E.B≤w.heap.size:=by have:=zone_lo F (k:=E.fb) (.inl rfl);omega
theorem Fw.keep (F:Fw E w vw R) (K:Kp Y w w') (hY:∀ b,b < w.heap.size→Y b→E.B≤b∧False):Fw E w' vw R:=by
 have hn:∀ b,b < w.heap.size→¬ Y b:=fun b hb e=>(hY b hb e).2;have hb:Below w.heap.size w w':=⟨K.os,K.tape,K.output,K.size,fun k hk=>K.block k hk (hn k hk)⟩;have hb0:Below E.B w w':=⟨K.os,K.tape,K.output,K.size,fun k hk=>K.block k (by have:=F.base;omega) (hn k (by have:=F.base;omega))⟩
 refine ⟨F.cls.mono mCls hb0 (Nat.le_refl _),F.mes.mono mMe hb0 (Nat.le_refl _),F.par.mono mTy hb0 (Nat.le_refl _),F.code.mono mIns hb0 (Nat.le_refl _),F.hands.mono mHd hb0 (Nat.le_refl _),F.oks,F.fl.next K (hn _ (zone_lo F (.inl rfl)).2),F.ck.next K (hn _ (zone_lo F (.inr (.inl rfl))).2),fun k hk=>?_,row_keep F.wk K (fun g hg=>hn g (World.ownsRow.lt F.wk g hg).2),F.lo,F.ne,F.far,F.some_⟩;obtain ⟨v,c,fz,p⟩:=F.st k hk;exact ⟨v,K.cell c (hn _ (cell_lt c)),K.frz fz (cell_lt c) (hn _ (cell_lt c)),p.next K (fun b hb e=>absurd e (hn b hb)) (fun _ _ e=>e)⟩
theorem Fw.below (F:Fw E w vw R) (hb:Below w.heap.size w w'):Fw E w' vw R:=F.keep (Y:=fun _=>False) (Kp.of_below hb (Nat.le_refl _)) (fun _ _ e=>e.elim)
theorem kz (F:Fw E w vw R) (K:Kp (zone E vw) w w'):Below E.B w w':=K.below F.base (fun x hx=>(zone_lo F hx).1)
theorem Fw.state (F:Fw E w vw R){a:Nat}(ha:a < R.states.length){s:State}{v:Value}(hv:PSt w (zone E vw) v (some s)):Fw E (w.setCell ⟨E.sb,a,none⟩ v) vw ⟨R.states.set a (some s),R.work,R.bad⟩:=by
 have K:Kp (fun k=>k=E.sb) w (w.setCell ⟨E.sb,a,none⟩ v):=Kp.setCell (Kp.refl (fun k=>k=E.sb) w) (p:=⟨E.sb,a,none⟩) (.inl rfl) v;have hb0:Below E.B w (w.setCell ⟨E.sb,a,none⟩ v):=K.below F.base (fun x e=>by subst e;exact F.lo.2.2)
 have hZ:∀ b,b < w.heap.size→b=E.sb→zone E vw b:=fun b _ e=>.inr (.inr (.inl e));refine ⟨F.cls.mono mCls hb0 (Nat.le_refl _),F.mes.mono mMe hb0 (Nat.le_refl _),F.par.mono mTy hb0 (Nat.le_refl _),F.code.mono mIns hb0 (Nat.le_refl _),F.hands.mono mHd hb0 (Nat.le_refl _),F.oks,?_,F.ck.next K (fun e=>F.ne.2.2 e),fun k hk=>?_,row_keep F.wk K (fun g hg e=>(F.far g hg).2.2 e),F.lo,F.ne,F.far,by simpa using F.some_⟩
 ·have:=F.fl.next K (fun e=>F.ne.2.1 e)
  simpa using this
 ·simp only [List.length_set] at hk;obtain ⟨u,c,fz,p⟩:=F.st k hk;simp only;rw [getD_setO _ _ _ _ ha]
  by_cases e:k=a
  ·subst e;rw [if_pos rfl];exact ⟨v,by go_simp,by rw [World.frozen?_setCell];exact fz,hv.next K hZ (fun _ _ e=>e)⟩
  ·rw [if_neg e];have hne:¬ ((⟨E.sb,a,none⟩:Addr)=⟨E.sb,k,none⟩):=by intro h;injection h with _ h;omega
   exact ⟨u,by rw [World.cell?_setCell_other _ _ _ _ hne];exact c,by rw [World.frozen?_setCell];exact fz,p.next K hZ (fun _ _ e=>e)⟩
theorem Fw.work (F:Fw E w vw R){w2:World}(K:Kp (fun k=>vw.ownBlock=some k) w w2){l:List Nat}{vn:Value}(hr:w2.ownsRow E.B 3 1 vn l.length (wcells l)) (hn:∀ g,vn.ownBlock=some g→vw.ownBlock=some g∨w.heap.size≤g) :
  Fw E (w2.setCell ⟨E.fb,2,none⟩ vn) vn ⟨R.states,l,R.bad⟩∧Kp (zone E vw) w (w2.setCell ⟨E.fb,2,none⟩ vn)∧∀ k,zone E vn k→zone E vw k∨w.heap.size≤k:=by
 have K2:Kp (fun k=>k=E.fb) w2 (w2.setCell ⟨E.fb,2,none⟩ vn):=Kp.setCell (Kp.refl (fun k=>k=E.fb) w2) (p:=⟨E.fb,2,none⟩) (.inl rfl) vn;have KK:Kp (zone E vw) w (w2.setCell ⟨E.fb,2,none⟩ vn):=(K.mono (fun k hk=>.inr (.inr (.inr hk)))).trans K2 (fun y e=>.inl (.inl e));have hb0:=kz F KK;have hfb:=(zone_lo F (k:=E.fb) (.inl rfl)).2;have hcb:=(zone_lo F (k:=E.cb) (.inr (.inl rfl))).2;have hsb:=(zone_lo F (k:=E.sb) (.inr (.inr (.inl rfl)))).2
 have hz:∀ k,zone E vn k→zone E vw k∨w.heap.size≤k:=fun k hk=>by
  rcases hk with e | e | e | e
  ·exact .inl (.inl e)
  ·exact .inl (.inr (.inl e))
  ·exact .inl (.inr (.inr (.inl e)))
  ·exact (hn k e).imp (fun e=>.inr (.inr (.inr e))) id
 have hfar:∀ g,vn.ownBlock=some g→g≠E.fb∧g≠E.cb∧g≠E.sb:=fun g hg=>by
  rcases hn g hg with e | e
  ·exact F.far g e
  ·refine ⟨?_,?_,?_⟩ <;> omega
 refine ⟨⟨F.cls.mono mCls hb0 (Nat.le_refl _),F.mes.mono mMe hb0 (Nat.le_refl _),F.par.mono mTy hb0 (Nat.le_refl _),F.code.mono mIns hb0 (Nat.le_refl _),F.hands.mono mHd hb0 (Nat.le_refl _),F.oks,?_,?_,fun k hk=>?_,row_keep hr K2 (fun g hg e=>(hfar g hg).1 e),F.lo,F.ne,hfar,F.some_⟩,KK,hz⟩
 ·exact (F.fl.next K (fun e=>(F.far _ e).1 rfl)).set 2 (by simp) vn
 ·exact (F.ck.next K (fun e=>(F.far _ e).2.1 rfl)).next K2 (fun e=>F.ne.1 e.symm)
 ·obtain ⟨u,c,fz,p⟩:=F.st k hk;have h1:¬ zone E vw E.sb→False:=fun h=>h (.inr (.inr (.inl rfl)));have hnb:¬ vw.ownBlock=some E.sb:=fun e=>(F.far _ e).2.2 rfl;have hnf:¬ E.sb=E.fb:=fun e=>F.ne.2.1 e.symm;refine ⟨u,K2.cell (K.cell c hnb) hnf,K2.frz (K.frz fz (cell_lt c) hnb) (Nat.lt_of_lt_of_le (cell_lt c) K.size) hnf,p.next KK (fun b _ e=>e) (fun b hb e=>?_)⟩
  rcases hz b e with q | q
  ·exact q
  ·omega
theorem Fw.bad (F:Fw E w vw R) (b:Bool):Fw E (w.setCell ⟨E.cb,11,none⟩ (.bool b)) vw ⟨R.states,R.work,b⟩∧Kp (zone E vw) w (w.setCell ⟨E.cb,11,none⟩ (.bool b)):=by
 have K:Kp (fun k=>k=E.cb) w (w.setCell ⟨E.cb,11,none⟩ (.bool b)):=Kp.setCell (Kp.refl (fun k=>k=E.cb) w) (p:=⟨E.cb,11,none⟩) (.inl rfl) _;have KK:Kp (zone E vw) w (w.setCell ⟨E.cb,11,none⟩ (.bool b)):=K.mono (fun k e=>.inr (.inl e));have hb0:=kz F KK;refine ⟨⟨F.cls.mono mCls hb0 (Nat.le_refl _),F.mes.mono mMe hb0 (Nat.le_refl _),F.par.mono mTy hb0 (Nat.le_refl _),F.code.mono mIns hb0 (Nat.le_refl _),F.hands.mono mHd hb0 (Nat.le_refl _),F.oks,F.fl.next K (fun e=>F.ne.1 e),?_,fun k hk=>?_,row_keep F.wk K (fun g hg e=>(F.far g hg).2.1 e),F.lo,F.ne,F.far,F.some_⟩,KK⟩
 ·have:=F.ck.set 11 (by simp [ccells,meV]) (.bool b)
  simpa [ccells,meV] using this
 ·obtain ⟨u,c,fz,p⟩:=F.st k hk;have hnb:¬ E.sb=E.cb:=fun e=>F.ne.2.2 e.symm;exact ⟨u,K.cell c hnb,K.frz fz (cell_lt c) hnb,p.next KK (fun b _ e=>e) (fun _ _ e=>e)⟩
end
end Sck
namespace UpW
section
variable {F:Fence}{n:Nat}{P:Program}
def Lets {β:Type}(p:Addr) (J:β→World→Prop):Prop:=∀ s W v,J s W→J s (W.setCell p v)
theorem setCell_obj {W:World}{p:Addr}{v:Value}{k:Nat}{o:Obj}(h:W.heap[k]? = some o) (hc:o.isCells=false):(W.setCell p v).heap[k]? = some o:=by
 simp only [World.setCell,Array.getElem?_modify]
 split
 ·rename_i e
  subst e;rw [h]
  cases o <;> simp_all [Obj.isCells]
 ·exact h
def Gives {α:Type}(F:Fence) (n:Nat) (P:Program) (g:Nat) (lb:Array Value) (encs:α→Array Value) (Kp:World→World→Prop) (S Sp:List α→Prop) (box:Addr) (w:World):Prop :=
 ∀ (l:Nat) (J Jx:List α→World→Prop) (W:World),Kp w W→Lets box J→Lets box Jx →
  (∀ pre x W1,J pre W1→YieldAt F (n - 1) P l (encs x) W1 fun e W' =>
   (e=.returned (.bool true)∧J (pre++[x]) W'∧Kp W1 W')∨(e=.returned (.bool false)∧Jx (pre++[x]) W')) →
  J [] W →
  CallsIn F n P g (#[.func (.yield l) #[] #[]]++lb) W fun e W'=>(∃ v,e=.returned v)∧((∃ xs,S xs∧J xs W')∨(∃ pre,Sp pre∧Jx pre W'))
theorem range {α:Type}{g:Operand}{ps:Array Tmp}{assign body:Code}{Q:Exit→Act→World→Prop}{a:Act}{w:World}
  (hro:F.round=none) (h1:1≤n){gf:Nat}{lb:Array Value}(hg:a.eval g=.func (.func gf) #[] lb) (hFg:F.fn gf) (eg:∀ args w,(callFunc gf args).run P w=.ok (.enter gf args) w)
  {encs:α→Array Value}{Kp:World→World→Prop}{S Sp:List α→Prop}{box:Addr}(hgv:Gives F (n - 1) P gf lb encs Kp S Sp box w)
  (hKt:∀ {A B C:World},Kp A B→Kp B C→Kp A C) (hKr:Kp w w) (hKa:∀ (W:World) (o:Obj),Kp w W→Kp w (W.alloc o))
  (hKb:∀ (W:World) (l:Nat) (o o':Obj),w.heap.size≤l→W.heap[l]? = some o→o.isCells=false→o.isWalk=false→Kp W (W.putObj l o')) (hps:∀ x,(encs x).size=ps.size)
  (I:List α→World→Prop) (Ix:Code→List α→World→Prop) (hI:OwnFrom w.heap.size I) (hIx:∀ c,OwnFrom w.heap.size (Ix c)) (hIb:Lets box I) (hIxb:∀ c,Lets box (Ix c)) (h0:I [] w) (a₁:α→Act)
  (hassign:∀ (l:Nat) (x:α) (W:World) (K:Act→World→Prop),K (a₁ x) W →
   assign.wpIn (F.inRound l) (n - 1 - 1) P (Exit.then K (fun _ _ _=>False)) { tmps:=(ps.zip (encs x)).foldl (fun t (p,v)=>t.setIfInBounds p v) a.tmps,defers:=[] } W)
  (hbody:∀ (l:Nat) (pre:List α) (x:α) (W:World),I pre W→body.wpIn (F.inRound l) (n - 1 - 1) P (ownPostK Kp I Ix (pre++[x]) W) (a₁ x) W)
  (hdone:∀ (D:Nat) (xs:List α) (W:World),w.heap.size≤D→S xs→I xs W→W.heap[D]? = some (.deferred (some []))→Q .normal { a with defers:={ target:=.collected D,args:=#[] } :: a.defers } W)
  (hstop:∀ (D:Nat) (c:Code) (pre:List α) (W:World),w.heap.size≤D→Sp pre→Ix c pre W→W.heap[D]? = some (.deferred (some []))→c.wpIn F n P Q { a with defers:={ target:=.collected D,args:=#[] } :: a.defers } W) :
  (Code.rangeFunc g ps assign body).wpIn F n P Q a w:=by
 refine wpIn_rangeFunc ?_
 intro fn hfn
 rw [hro];obtain ⟨rec,hrec⟩:∃ rec:LoopState→Option Code→Loop,rec=fun st pe=>{ state:=st,pending:=pe,fn,tmps:=a.tmps,params:=ps,assign,body,defers:=w.heap.size }:=⟨_,rfl⟩;obtain ⟨W1,hW1⟩:∃ W1,(w.alloc (.deferred (some []))).alloc (.loop (rec .ready none))=W1:=⟨_,rfl⟩
 have hL1:W1.heap[w.heap.size+1]? = some (.loop (rec .ready none)):=by
  rw [← hW1];have:=World.alloc_heap_new (w.alloc (.deferred (some []))) (.loop (rec .ready none));rwa [World.size_alloc] at this
 have hK1:W1.heap[w.heap.size]? = some (.deferred (some [])):=by
  rw [← hW1];exact (Below.heap_alloc _ _ _ (by simp)).trans (World.alloc_heap_new w _)
 have hI1:I [] W1:=by rw [← hW1];exact hI.alloc _ (hI.alloc _ h0)
 have hb1:Kp w W1:=by rw [← hW1];exact hKa _ _ (hKa _ _ hKr)
 refine ⟨w.heap.size+1,[{ target:=.collected w.heap.size,args:=#[] }],W1,{ target:=.fn (.func gf) lb,args:=#[.func (.yield (w.heap.size+1)) #[] #[]] },W1,gf,
  #[.func (.yield (w.heap.size+1)) #[] #[]]++lb,W1,?_,?_,?_,?_,fun _=>h1,?_⟩
 ·rw [← hW1,hrec];exact run_enterLoop_outer _ _ _ _ _
 ·simp only [resolve,hg];simp [go_sem]
 ·intro f' hf';simp [Target.leads] at hf';subst hf';exact hFg
 ·simp [invoke,go_sem,eg]
 ·refine (hgv (w.heap.size+1)
   (fun pre W=>I pre W∧W.heap[w.heap.size+1]? = some (.loop (rec .ready none))∧W.heap[w.heap.size]? = some (.deferred (some [])))
   (fun pre W=>∃ c,Ix c pre W∧W.heap[w.heap.size+1]? = some (.loop (rec .done (some c)))∧W.heap[w.heap.size]? = some (.deferred (some [])))
   W1 hb1
   (fun s W v hs=>⟨hIb s W v hs.1,setCell_obj hs.2.1 rfl,setCell_obj hs.2.2 rfl⟩)
   (fun s W v hs=>by
    obtain ⟨c,hc,hl,hk⟩:=hs
    exact ⟨c,hIxb c s W v hc,setCell_obj hl rfl,setCell_obj hk rfl⟩)
   ?_ ⟨hI1,hL1,hK1⟩).mono ?_
  ·rintro pre x W ⟨hi,hl,hk⟩;have hlt:w.heap.size+1 < W.heap.size:=(Array.getElem?_eq_some_iff.1 hl).1;have hy:=run_yield (P:=P) (args:=encs x) hl (by rw [hrec];exact hps x)
   rw [hrec] at hy;refine ⟨fn,_,assign,body,hy,roundIn_of_wpIn hfn (hassign _ x W _ ⟨_,run_beginRound hl (by rw [hrec]),?_⟩)⟩
   have hl2:(W.putObj (w.heap.size+1) (.loop { rec .ready none with state:=.busy })).heap[w.heap.size+1]? = some (.loop { rec .ready none with state:=.busy }):=World.putObj_heap_same hlt
   have hk2:(W.putObj (w.heap.size+1) (.loop { rec .ready none with state:=.busy })).heap[w.heap.size]? = some (.deferred (some [])):=(World.putObj_heap_other (by omega)).trans hk
   have hw2:Kp W (W.putObj (w.heap.size+1) (.loop { rec .ready none with state:=.busy })):=hKb _ _ _ _ (by omega) hl rfl rfl
   refine wpIn_mono (hbody _ pre x _ (hI.putObj _ hi (by omega) hl rfl)) ?_
   have fin:∀ (jump:Option Code) (W3:World),KeepsOthers (W.putObj (w.heap.size+1) (.loop { rec .ready none with state:=.busy })) W3 →
     (Instr.endRound (w.heap.size+1) jump).run P W3=.ok (.bool jump.isNone) (W3.putObj (w.heap.size+1) (.loop (rec (if jump.isNone then .ready else .done) jump))) ∧
     W3.heap[w.heap.size+1]? = some (.loop { rec .ready none with state:=.busy }) ∧
     (W3.putObj (w.heap.size+1) (.loop (rec (if jump.isNone then .ready else .done) jump))).heap[w.heap.size+1]? = some (.loop (rec (if jump.isNone then .ready else .done) jump)) ∧
     (W3.putObj (w.heap.size+1) (.loop (rec (if jump.isNone then .ready else .done) jump))).heap[w.heap.size]? = some (.deferred (some [])):=fun jump W3 hk3=>by
    have hl3:=hk3.same _ _ hl2 rfl
    have:=run_endRound (P:=P) jump hl3
    rw [hrec] at this ⊢;exact ⟨this,by rw [hrec] at hl3;exact hl3,World.putObj_heap_same (Array.getElem?_eq_some_iff.1 hl3).1,(World.putObj_heap_other (by omega)).trans (hk3.same _ _ hk2 rfl)⟩
   rintro e a3 W3 hp
   cases e with
   | normal =>
    obtain ⟨hk3,hkp3,hi3⟩:=hp;obtain ⟨hr,hl3,hl4,hk4⟩:=fin none W3 hk3;exact ⟨_,_,hr,.inl ⟨rfl,⟨hI.putObj _ hi3 (by omega) hl3 rfl,hl4,hk4⟩,hKt (hKt hw2 hkp3) (hKb _ _ _ _ (by omega) hl3 rfl rfl)⟩⟩
   | ret =>
    obtain ⟨hk3,hi3⟩:=hp;obtain ⟨hr,hl3,hl4,hk4⟩:=fin (some .ret) W3 hk3;exact ⟨_,_,hr,.inr ⟨rfl,.ret,(hIx _).putObj _ hi3 (by omega) hl3 rfl,hl4,hk4⟩⟩
   | exit id =>
    obtain ⟨hk3,hi3⟩:=hp;obtain ⟨hr,hl3,hl4,hk4⟩:=fin (some (.exit id)) W3 hk3;exact ⟨_,_,hr,.inr ⟨rfl,.exit id,(hIx _).putObj _ hi3 (by omega) hl3 rfl,hl4,hk4⟩⟩
   | goto t =>
    obtain ⟨hk3,hi3⟩:=hp;obtain ⟨hr,hl3,hl4,hk4⟩:=fin (some (.goto t)) W3 hk3;exact ⟨_,_,hr,.inr ⟨rfl,.goto t,(hIx _).putObj _ hi3 (by omega) hl3 rfl,hl4,hk4⟩⟩
   | panic ch=>exact hp.elim
   | outgrown=>exact hp.elim
  ·rintro e W2 ⟨⟨v,rfl⟩,(⟨xs,hS,hi,hl,hk⟩ | ⟨pre,hSp,c,hi,hl,hk⟩)⟩
   ·exact ⟨none,_,by have:=run_endLoop (P:=P) hl (by rw [hrec];simp);rw [hrec] at this;exact this,hdone _ xs _ (Nat.le_refl _) hS (hI.putObj _ hi (by omega) hl rfl) ((World.putObj_heap_other (by omega)).trans hk)⟩
   ·exact ⟨some c,_,by have:=run_endLoop (P:=P) hl (by rw [hrec];simp);rw [hrec] at this;exact this,hstop _ c pre _ (Nat.le_refl _) hSp ((hIx c).putObj _ hi (by omega) hl rfl) ((World.putObj_heap_other (by omega)).trans hk)⟩
end
end UpW
attribute [local go_sem] Oper.semAt_some
namespace UpW
open HierW Rd D Go.Shelf
def boxed (W:World) (b:Nat):Int:=match W.cell? ⟨b,0,none⟩ with | some (.int _ c)=>c | _=>0
theorem boxed_eq {W:World}{b:Nat}{k:IntKind}{c:Int}(h:W.cell? ⟨b,0,none⟩=some (.int k c)):boxed W b=c:=by rw [boxed,h]
theorem up_next {l:List Cls}(hw:Hier.Wf l){c0 c:Int}{pre:List Int}(h:Hier.up l c0=pre++Hier.up l c) (hc:0≤c∧c < l.length):Hier.up l c0=(pre++[c])++Hier.up l (Hier.sup l c):=by
 rw [h,Hier.up_in hw hc];simp
set_option maxRecDepth 100000 in
theorem up1 (F:Fence) (n:Nat) (hF:F.fn 250) (hro:F.round=none) (hn:1≤n) (L B n₀ Bc Bl:Nat) (v:Value) (l:List Cls) (c0:Int) (J Jx:List Int→World→Prop)
  (hJ:Lets ⟨Bc,0,none⟩ J)
  (hY:∀ pre x W,J pre W→YieldAt F (n - 1) Try.prog L #[.int .i64 x] W fun e W' =>
   (e=.returned (.bool true)∧J (pre++[x]) W'∧Below n₀ W W')∨(e=.returned (.bool false)∧Jx (pre++[x]) W'))
  (W:World) (h1:W.cell? ⟨Bc,0,none⟩=some (.int .i64 c0)) (h2:W.frozen? ⟨Bc,0,none⟩=false) (h3:W.cell? ⟨Bl,0,none⟩=some v) (hl:Sl 2 ECls W B v l) (hw:Hier.Wf l)
  (hB1:B≤Bc) (hB2:B≤Bl) (hne:Bl≠Bc) (hn1:Bc < n₀) (hn2:Bl < n₀) (h0:J [] W) :
  CallsIn F n Try.prog 250 #[.func (.yield L) #[] #[],.pointer (some ⟨Bc,0,none⟩),.pointer (some ⟨Bl,0,none⟩)] W fun e W'=>(∃ v,e=.returned v) ∧
   ((∃ ys,ys=Hier.up l c0∧J ys W')∨(∃ pre,pre <+: Hier.up l c0∧Jx pre W')):=by
 obtain ⟨a,cap,rfl,hlc,hcc,hel⟩:=hl;refine callsIn_of_wp Try.func250 rfl hF ?_ hro;simp only [Try.ntmps250,List.size_toArray,List.length_cons,List.length_nil,Nat.reduceAdd,Nat.reduceSub,Array.replicate_succ,Array.replicate_zero,List.push_toArray,List.append_toArray,List.nil_append,List.cons_append]
 gi_wp2
 gi_loopw [] (fun wr=>∃ (pre:List Int) (c:Int),Hid (Hier.up l c0=pre++Hier.up l c)∧J pre wr∧wr.cell? ⟨Bc,0,none⟩=some (.int .i64 c)∧wr.frozen? ⟨Bc,0,none⟩=false∧wr.cell? ⟨Bl,0,none⟩=some (.slice a l.length cap)∧Below B W wr)
  (fun wr=>(boxed wr Bc+1).toNat)
 case atStart=>exact ⟨[],c0,rfl,h0,h1,h2,h3,Below.refl _ _⟩
 case round =>
  obtain ⟨pre,c,hup,hj,g1,g2,g3,hbw⟩:=hrel
  by_cases hin:0≤c∧c < l.length
  ·obtain ⟨k,rfl⟩:=Int.eq_ofNat_of_zero_le hin.1;have hk:k < l.length:=by omega
   obtain ⟨b,o,rfl,hb,he⟩:=hel k hk;have hs:=hw k hk;have hup2:=Lib.hid (up_next hw hup.out hin)
   have hsup:Hid (Hier.sup l (k:Int)=(l[k]).sup):=by
    show _=_
    rw [Hier.sup,Int.toNat_natCast,Hier.at_eq hk]
   rw [Hier.at_eq hk] at hs;rw [hsup.out] at hup2;obtain ⟨x,hx⟩:=at_of hk;rw [hx.out] at he hs hup2;obtain ⟨e1,_⟩:=he;obtain ⟨fn,tmps,assign,body,hy,hR⟩:=hY pre k wr hj;have q1:(0:Int)≤k:=by omega
   have hbw':=Lib.hid hbw;have g1':=g1;clear hel hbw
   gi_wp2
   refine hR.mono ?_;rintro e W3 (⟨rfl,hJ3,hk3⟩ | ⟨rfl,hJx3⟩)
   ·have p1:=kept hk3 hn1 g1;have p2:W3.frozen? ⟨Bc,0,none⟩=false:=(hk3.frozen (p:=⟨Bc,0,none⟩) hn1).trans g2;have p3:=kept hk3 hn2 g3;have hb3:Hid (Below B W W3):=hbw'.out.trans (hk3.mono (by omega))
    have p4:=kept hb3.out hb e1;clear g2 g3 e1 hy hk3;have g1'':=Lib.hid g1';clear g1 g1'
    gi_wp2
    go_roundw
    case rel =>
     refine ⟨pre++[(k:Int)],x.sup,hup2,hJ _ _ _ hJ3,World.cell?_setCell_same' _ _ _ (by rw [p1];rfl),(World.frozen?_setCell _ _ _ _).trans p2,?_,hb3.out.setCell (by simp;omega) _⟩
     exact (World.cell?_setCell_other _ _ _ _ (by intro e;injection e with e;exact hne e.symm)).trans p3
    case measure =>
     rw [boxed_eq g1''.out,boxed_eq (World.cell?_setCell_same' W3 ⟨Bc,0,none⟩ (.int .i64 x.sup) (by rw [p1];rfl))]
     omega
   ·gi_wp2
    go_end0
    exact ⟨⟨_,rfl⟩,.inr ⟨pre++[(k:Int)],⟨_,hup2.out.symm⟩,hJx3⟩⟩
  ·have hupe:=Lib.hid (Hier.up_out (l:=l) hin)
   by_cases hc:c < 0
   ·clear hel
    gi_wp2
    refine ⟨fun _ h=>(by cases h),?_⟩
    gi_wp2
    go_end0
    exact ⟨⟨_,rfl⟩,.inl ⟨pre,by rw [hup.out,hupe.out,List.append_nil],hj⟩⟩
   ·clear hel;have q1:(l.length:Int)≤c:=by omega
    gi_wp2
    refine ⟨fun _ h=>(by cases h),?_⟩
    gi_wp2
    go_end0
    exact ⟨⟨_,rfl⟩,.inl ⟨pre,by rw [hup.out,hupe.out,List.append_nil],hj⟩⟩
theorem up1_gives (F:Fence) (n:Nat) (hF:F.fn 250) (hro:F.round=none) (hn:1≤n) (B n₀ Bc Bl:Nat) (v:Value) (l:List Cls) (c0:Int) (w:World)
  (h1:w.cell? ⟨Bc,0,none⟩=some (.int .i64 c0)) (h2:w.frozen? ⟨Bc,0,none⟩=false) (h3:w.cell? ⟨Bl,0,none⟩=some v) (hl:Sl 2 ECls w B v l) (hw:Hier.Wf l)
  (hB1:B≤Bc) (hB2:B≤Bl) (hne:Bl≠Bc) (hn1:Bc < n₀) (hn2:Bl < n₀) :
  Gives F n Try.prog 250 #[.pointer (some ⟨Bc,0,none⟩),.pointer (some ⟨Bl,0,none⟩)] (fun x:Int=>#[.int .i64 x]) (Below n₀) (fun ys=>ys=Hier.up l c0) (fun pre=>pre <+: Hier.up l c0) ⟨Bc,0,none⟩ w :=
 fun L J Jx W hk hJ _ hY h0=>up1 F n hF hro hn L B n₀ Bc Bl v l c0 J Jx hJ hY W (kept hk hn1 h1) ((hk.frozen (p:=⟨Bc,0,none⟩) hn1).trans h2) (kept hk hn2 h3) (hl.mono mCls (hk.mono (by omega)) (Nat.le_refl _)) hw hB1 hB2 hne hn1 hn2 h0
theorem up_in (F:Fence) (n:Nat) (hF:F.fn 241) (hro:F.round=none) (a:Option Addr) (k cap:Nat) (c:Int) (w:World) :
  CallsIn F n Try.prog 241 #[.slice a k cap,.int .i64 c] w fun e w'=>e=.returned (.func (.func 250) #[] #[.pointer (some ⟨w.heap.size+1,0,none⟩),.pointer (some ⟨w.heap.size,0,none⟩)]) ∧
   (w.alloc (.cells #[.slice a k cap] 22)).alloc (.cells #[.int .i64 c] 3)=w':=by
 refine callsIn_of_wp Try.func241 rfl hF ?_ hro;simp only [Try.ntmps241,List.size_toArray,List.length_cons,List.length_nil,Nat.reduceAdd,Nat.reduceSub,Array.replicate_succ,Array.replicate_zero,List.push_toArray,List.append_toArray,List.nil_append,List.cons_append]
 gi_wp2
 go_ret;exact ⟨rfl,rfl⟩
theorem cell_new (W:World) (v:Value) (t:TypeId):(W.alloc (.cells #[v] t)).cell? ⟨W.heap.size,0,none⟩=some v∧(W.alloc (.cells #[v] t)).frozen? ⟨W.heap.size,0,none⟩=false:=by
 have h:=World.alloc_heap_new W (.cells #[v] t)
 constructor
 ·unfold World.cell?;rw [h]
  rfl
 ·unfold World.frozen?;rw [h]
  rfl
theorem cell_old {W:World}{a:Addr}{v:Value}(o:Obj) (h:W.cell? a=some v):(W.alloc o).cell? a=some v:=cell_kept h (World.grownBy_alloc W o none) (fun r e=>by cases e)
theorem frozen_old {W:World}{a:Addr}{v:Value}(o:Obj) (h:W.cell? a=some v) (hf:W.frozen? a=false):(W.alloc o).frozen? a=false:=(frozen_kept h (World.grownBy_alloc W o none) (fun r e=>by cases e)).trans hf
set_option maxRecDepth 100000 in
theorem is (v:Value) (l:List Cls) (c d:Int) (w:World) (h:Cs w v l) (hw:Hier.Wf l):Calls Try.prog 209 #[v,.int .i64 c,.int .i64 d] w fun e w'=>e=.returned (.bool (Hier.is l c d))∧Below w.heap.size w w':=by
 have h':=h;obtain ⟨a,cap,rfl,_,_,_⟩:=h';refine (callsIn_wide (n:=4)).1 ?_;refine callsIn_of_wp_marks Try.func209 rfl trivial ?_ rfl;simp only [Try.ntmps209,List.size_toArray,List.length_cons,List.length_nil,Nat.reduceAdd,Nat.reduceSub,Array.replicate_succ,Array.replicate_zero,List.push_toArray,List.append_toArray,List.nil_append,List.cons_append]
 gi_wp2_with (refine ⟨trivial,?_⟩;gi_at_call 241;refine (up_in Fence.wide 3 trivial rfl _ _ _ _ _).mono ?_;rintro e w' ⟨rfl,rfl⟩)
 have c0:=cell_new w (.int .i64 d) 3;have c1:=cell_new (w.alloc (.cells #[.int .i64 d] 3)) (.bool false) 4;have c2:=cell_new ((w.alloc (.cells #[.int .i64 d] 3)).alloc (.cells #[.bool false] 4)) (.slice a l.length cap) 22;have c3:=cell_new (((w.alloc (.cells #[.int .i64 d] 3)).alloc (.cells #[.bool false] 4)).alloc (.cells #[.slice a l.length cap] 22)) (.int .i64 c) 3;simp only [World.size_alloc] at c1 c2 c3;have hB0:Below w.heap.size w ((((w.alloc (.cells #[.int .i64 d] 3)).alloc (.cells #[.bool false] 4)).alloc (.cells #[.slice a l.length cap] 22)).alloc (.cells #[.int .i64 c] 3)):=Rd.byB
 refine range rfl (by omega) (gf:=250) (lb:=#[.pointer (some ⟨w.heap.size+1+1+1,0,none⟩),.pointer (some ⟨w.heap.size+1+1,0,none⟩)]) rfl trivial (enters_of Try.func250 (by kernel_rfl) rfl)
  (up1_gives Fence.wide 3 trivial rfl (by omega) w.heap.size (w.heap.size+4) (w.heap.size+1+1+1) (w.heap.size+1+1) _ l c _ c3.1 c3.2 (cell_old _ c2.1) (h.mono mCls hB0 (Nat.le_refl _)) hw (by omega) (by omega) (by omega) (by omega) (by omega))
  belowK_t (Below.refl _ _) (fun W o hW=>hW.alloc (by have:=hW.size;simp at this;omega) _) (belowK_b (by simp)) (fun _=>rfl)
  (fun pre W=>((∀ y∈pre,y≠d)∧W.cell? ⟨w.heap.size,0,none⟩=some (.int .i64 d)∧W.cell? ⟨w.heap.size+1,0,none⟩=some (.bool false)∧W.frozen? ⟨w.heap.size+1,0,none⟩=false)∧Below w.heap.size w W)
  (fun e pre W=>(e=.ret∧d∈pre∧W.cell? ⟨w.heap.size+1,0,none⟩=some (.bool true))∧Below w.heap.size w W)
  (OwnFrom.and (Own.from (fun s A B row hs hg hr=>⟨hs.1,cell_kept hs.2.1 hg hr,cell_kept hs.2.2.1 hg hr,(frozen_kept hs.2.2.1 hg hr).trans hs.2.2.2⟩) _) (ownFrom_below (Nat.le_refl _) (by simp;omega)))
  (fun e=>OwnFrom.and (Own.from (fun s A B row hs hg hr=>⟨hs.1,hs.2.1,cell_kept hs.2.2 hg hr⟩) _) (ownFrom_below (Nat.le_refl _) (by simp;omega)))
  (fun s W u hs=>⟨⟨hs.1.1,(World.cell?_setCell_other _ _ _ _ (by intro e;injection e with e;omega)).trans hs.1.2.1,(World.cell?_setCell_other _ _ _ _ (by intro e;injection e with e;omega)).trans hs.1.2.2.1,(World.frozen?_setCell _ _ _ _).trans hs.1.2.2.2⟩,hs.2.setCell (by simp;omega) _⟩)
  (fun e s W u hs=>⟨⟨hs.1.1,hs.1.2.1,(World.cell?_setCell_other _ _ _ _ (by intro e;injection e with e;omega)).trans hs.1.2.2⟩,hs.2.setCell (by simp;omega) _⟩)
  ⟨⟨by simp,cell_old _ (cell_old _ (cell_old _ c0.1)),cell_old _ (cell_old _ c1.1),frozen_old _ (cell_old _ c1.1) (frozen_old _ c1.1 c1.2)⟩,hB0⟩
  (fun x=>{ tmps:=#[.slice a l.length cap,.int .i64 c,.int .i64 d,undef,undef,.pointer (some ⟨w.heap.size,0,none⟩),.pointer (some ⟨w.heap.size+1,0,none⟩),.int .i64 x,.slice a l.length cap,.int .i64 c,.func (.func 250) #[] #[.pointer (some ⟨w.heap.size+1+1+1,0,none⟩),.pointer (some ⟨w.heap.size+1+1,0,none⟩)],.int .i64 x,undef,undef,undef],defers:=[] }) ?assign ?body ?done ?stop
 case assign =>
  intro L x W K hK
  gi_wp2
  exact hK
 case body =>
  rintro L pre x W ⟨⟨hp,hcw,hcr,hfr⟩,hB⟩
  gi_wp2
  ·rename_i hx
   obtain rfl:x=d:=eq_of_beq hx
   exact ⟨KeepsOthers.setCell _ _ _,⟨rfl,List.mem_append.2 (.inr (by simp)),World.cell?_setCell_same' _ _ _ (by rw [hcr];rfl)⟩,hB.setCell (p:=⟨w.heap.size+1,0,none⟩) (by simp) _⟩
  ·rename_i hx
   exact ⟨KeepsOthers.refl _,Below.refl _ _,⟨fun y hy=>(List.mem_append.1 hy).elim (hp y) (fun e e'=>by simp at e;subst e;subst e';simp at hx),hcw,hcr,hfr⟩,hB⟩
 case done =>
  rintro D ys W hD rfl ⟨⟨hne,_,hcr,hfr⟩,hB⟩ hK
  gi_wp2
  have hK':=(KeepsOthers.setCell W ⟨w.heap.size+1,0,none⟩ (.bool false)).same D _ hK rfl;refine ⟨by simp,.inl ⟨_,_,rfl,run_takeDeferred hK',?_⟩⟩
  have hc5:=cell_kept (World.cell?_setCell_same' W ⟨w.heap.size+1,0,none⟩ (.bool false) (by rw [hcr];rfl)) (grownBy_putObj' _ D (.deferred none)) (fun r e=>by cases e;exact ⟨_,hK',rfl⟩)
  have hno:Hier.is l c d=false:=by
   unfold Hier.is;rw [Bool.eq_false_iff]
   intro hc
   exact hne d (by simpa using hc) rfl
  refine ⟨.bool false,?_,by rw [hno],(hB.setCell (p:=⟨w.heap.size+1,0,none⟩) (by simp) _).trans (belowK_b (w:=w) (Nat.le_refl _) _ D _ _ (by simp at hD;omega) hK' rfl rfl)⟩
  simp [results,Try.f209,go_sem,hc5]
 case stop =>
  rintro D e pre W hD hpre ⟨⟨rfl,hin,hcr⟩,hB⟩ hK
  gi_wp2
  refine ⟨by simp,.inl ⟨_,_,rfl,run_takeDeferred hK,?_⟩⟩
  have hc5:=cell_kept hcr (grownBy_putObj' _ D (.deferred none)) (fun r e=>by cases e;exact ⟨_,hK,rfl⟩)
  have hyes:Hier.is l c d=true:=by
   unfold Hier.is
   simpa using hpre.subset hin
  refine ⟨.bool true,?_,by rw [hyes],hB.trans (belowK_b (w:=w) (Nat.le_refl _) W D _ _ (by simp at hD;omega) hK rfl rfl)⟩
  simp [results,Try.f209,go_sem,hc5]
theorem lt_cell {W:World}{b o:Nat}{v:Value}(h:W.cell? ⟨b,o,none⟩=some v):b < W.heap.size:=by
 obtain ⟨x,hx,_⟩:=cells_of_cell h;exact (Array.getElem?_eq_some_iff.1 hx).1
theorem keeps_below {W W':World}(h:Below W.heap.size W W'):KeepsOthers W W':=by
 refine ⟨h.size,fun k o hk _=>?_⟩;rw [h.block k (Array.getElem?_eq_some_iff.1 hk).1];exact hk
theorem find_none {l:List Cls}{c d:Int}(h:∀ y∈Hier.up l c,Hier.is l d y=false):Hier.meet l c d = -1:=by
 have:(Hier.up l c).find? (fun x=>Hier.is l d x)=none:=by
  rw [List.find?_eq_none];intro y hy;rw [h y hy];simp
 rw [Hier.meet,this];rfl
theorem find_some {l:List Cls}{c d x:Int}{pre:List Int}(hp:pre++[x] <+: Hier.up l c) (h:∀ y∈pre,Hier.is l d y=false) (hx:Hier.is l d x=true):Hier.meet l c d=x:=by
 obtain ⟨t,ht⟩:=hp
 have h0:pre.find? (fun x=>Hier.is l d x)=none:=by
  rw [List.find?_eq_none];intro y hy;rw [h y hy];simp
 rw [Hier.meet,← ht,List.append_assoc,List.find?_append,h0];simp [hx]
set_option maxRecDepth 100000 in
theorem meet (v:Value) (l:List Cls) (c d:Int) (w:World) (h:Cs w v l) (hw:Hier.Wf l):Calls Try.prog 227 #[v,.int .i64 c,.int .i64 d] w fun e w'=>e=.returned (.int .i64 (Hier.meet l c d))∧Below w.heap.size w w':=by
 have h':=h;obtain ⟨a,cap,rfl,_,_,_⟩:=h';refine (callsIn_wide (n:=4)).1 ?_;refine callsIn_of_wp_marks Try.func227 rfl trivial ?_ rfl;simp only [Try.ntmps227,List.size_toArray,List.length_cons,List.length_nil,Nat.reduceAdd,Nat.reduceSub,Array.replicate_succ,Array.replicate_zero,List.push_toArray,List.append_toArray,List.nil_append,List.cons_append]
 gi_wp2_with (refine ⟨trivial,?_⟩;gi_at_call 241;refine (up_in Fence.wide 3 trivial rfl _ _ _ _ _).mono ?_;rintro e w' ⟨rfl,rfl⟩)
 have c0:=cell_new w (.slice a l.length cap) 22;have c1:=cell_new (w.alloc (.cells #[.slice a l.length cap] 22)) (.int .i64 d) 3;have c2:=cell_new ((w.alloc (.cells #[.slice a l.length cap] 22)).alloc (.cells #[.int .i64 d] 3)) (.int .i64 0) 3;have c3:=cell_new (((w.alloc (.cells #[.slice a l.length cap] 22)).alloc (.cells #[.int .i64 d] 3)).alloc (.cells #[.int .i64 0] 3)) (.slice a l.length cap) 22;have c4:=cell_new ((((w.alloc (.cells #[.slice a l.length cap] 22)).alloc (.cells #[.int .i64 d] 3)).alloc (.cells #[.int .i64 0] 3)).alloc (.cells #[.slice a l.length cap] 22)) (.int .i64 c) 3;simp only [World.size_alloc] at c1 c2 c3 c4;have hB0:Below w.heap.size w (((((w.alloc (.cells #[.slice a l.length cap] 22)).alloc (.cells #[.int .i64 d] 3)).alloc (.cells #[.int .i64 0] 3)).alloc (.cells #[.slice a l.length cap] 22)).alloc (.cells #[.int .i64 c] 3)):=Rd.byB
 refine range rfl (by omega) (gf:=250) (lb:=#[.pointer (some ⟨w.heap.size+1+1+1+1,0,none⟩),.pointer (some ⟨w.heap.size+1+1+1,0,none⟩)]) rfl trivial (enters_of Try.func250 (by kernel_rfl) rfl)
  (up1_gives Fence.wide 3 trivial rfl (by omega) w.heap.size (w.heap.size+5) (w.heap.size+1+1+1+1) (w.heap.size+1+1+1) _ l c _ c4.1 c4.2 (cell_old _ c3.1) (h.mono mCls hB0 (Nat.le_refl _)) hw (by omega) (by omega) (by omega) (by omega) (by omega))
  belowK_t (Below.refl _ _) (fun W o hW=>hW.alloc (by have:=hW.size;simp at this;omega) _) (belowK_b (by simp)) (fun _=>rfl)
  (fun pre W=>((∀ y∈pre,Hier.is l d y=false)∧W.cell? ⟨w.heap.size,0,none⟩=some (.slice a l.length cap)∧W.cell? ⟨w.heap.size+1,0,none⟩=some (.int .i64 d)∧W.cell? ⟨w.heap.size+1+1,0,none⟩=some (.int .i64 0)∧W.frozen? ⟨w.heap.size+1+1,0,none⟩=false∧w.heap.size+5≤W.heap.size)∧Below w.heap.size w W)
  (fun e pre W=>(e=.ret∧∃ pre0 x,pre=pre0++[x]∧(∀ y∈pre0,Hier.is l d y=false)∧Hier.is l d x=true∧W.cell? ⟨w.heap.size+1+1,0,none⟩=some (.int .i64 x))∧Below w.heap.size w W)
  (OwnFrom.and (Own.from (fun s A B row hs hg hr=>⟨hs.1,cell_kept hs.2.1 hg hr,cell_kept hs.2.2.1 hg hr,cell_kept hs.2.2.2.1 hg hr,(frozen_kept hs.2.2.2.1 hg hr).trans hs.2.2.2.2.1,Nat.le_trans hs.2.2.2.2.2 hg.size⟩) _) (ownFrom_below (Nat.le_refl _) (by simp;omega)))
  (fun e=>OwnFrom.and (Own.from (fun s A B row hs hg hr=>by
   obtain ⟨h1,pre0,x,h2,h3,h4,h5⟩:=hs
   exact ⟨h1,pre0,x,h2,h3,h4,cell_kept h5 hg hr⟩) _) (ownFrom_below (Nat.le_refl _) (by simp;omega)))
  (fun s W u hs=>⟨⟨hs.1.1,(World.cell?_setCell_other _ _ _ _ (by intro e;injection e with e;omega)).trans hs.1.2.1,(World.cell?_setCell_other _ _ _ _ (by intro e;injection e with e;omega)).trans hs.1.2.2.1,(World.cell?_setCell_other _ _ _ _ (by intro e;injection e with e;omega)).trans hs.1.2.2.2.1,(World.frozen?_setCell _ _ _ _).trans hs.1.2.2.2.2.1,by have:=hs.1.2.2.2.2.2;simpa [World.setCell] using this⟩,hs.2.setCell (by simp;omega) _⟩)
  (fun e s W u hs=>by
   obtain ⟨⟨h1,pre0,x,h2,h3,h4,h5⟩,h6⟩:=hs
   exact ⟨⟨h1,pre0,x,h2,h3,h4,(World.cell?_setCell_other _ _ _ _ (by intro e;injection e with e;omega)).trans h5⟩,h6.setCell (by simp;omega) _⟩)
  ⟨⟨by simp,cell_old _ (cell_old _ (cell_old _ (cell_old _ c0.1))),cell_old _ (cell_old _ (cell_old _ c1.1)),cell_old _ (cell_old _ c2.1),frozen_old _ (cell_old _ c2.1) (frozen_old _ c2.1 c2.2),by simp⟩,hB0⟩
  (fun x=>{ tmps:=#[.slice a l.length cap,.int .i64 c,.int .i64 d,.pointer (some ⟨w.heap.size,0,none⟩),undef,.pointer (some ⟨w.heap.size+1,0,none⟩),.pointer (some ⟨w.heap.size+1+1,0,none⟩),.int .i64 x,.slice a l.length cap,.int .i64 c,.func (.func 250) #[] #[.pointer (some ⟨w.heap.size+1+1+1+1,0,none⟩),.pointer (some ⟨w.heap.size+1+1+1,0,none⟩)],.int .i64 x,undef,undef,undef,undef,undef],defers:=[] }) ?assign ?body ?done ?stop
 case assign =>
  intro L x W K hK
  gi_wp2
  exact hK
 case body =>
  rintro L pre x W ⟨⟨hp,hcl,hcd,hcr,hfr,hsz⟩,hB⟩;have hCs:Cs W (.slice a l.length cap) l:=Sl.mono mCls h hB hB.size;have hq:w.heap.size+1+1 < W.heap.size:=lt_cell hcr;obtain ⟨tb,htb⟩:∃ tb,Hid (Hier.is l d x=tb):=⟨_,rfl⟩
  cases tb
  ·gi_wp2_with (refine ⟨trivial,?_⟩;gi_at_call 209;refine (CallsIn.inRound L (callsIn_wide.2 (is _ l d x _ hCs hw))).mono ?_;rw [htb.out];rintro e w1 ⟨rfl,hb1⟩)
   refine ⟨keeps_below hb1,hb1.mono (by omega),⟨fun y hy=>(List.mem_append.1 hy).elim (hp y) (fun e=>by simp at e;subst e;exact htb.out),kept hb1 (by omega) hcl,kept hb1 (by omega) hcd,kept hb1 (by omega) hcr,(hb1.frozen (p:=⟨w.heap.size+1+1,0,none⟩) (by simp;omega)).trans hfr,Nat.le_trans hsz hb1.size⟩,hB.trans (hb1.mono (by omega))⟩
  ·gi_wp2_with (refine ⟨trivial,?_⟩;gi_at_call 209;refine (CallsIn.inRound L (callsIn_wide.2 (is _ l d x _ hCs hw))).mono ?_;rw [htb.out];rintro e w1 ⟨rfl,hb1⟩;have k1:=kept hb1 hq hcr;have k2:=(hb1.frozen (p:=⟨w.heap.size+1+1,0,none⟩) hq).trans hfr)
   exact ⟨(keeps_below hb1).trans (KeepsOthers.setCell _ _ _),⟨rfl,pre,x,rfl,hp,htb.out,World.cell?_setCell_same' _ _ _ (by rw [k1];rfl)⟩,(hB.trans (hb1.mono (by omega))).setCell (p:=⟨w.heap.size+1+1,0,none⟩) (by simp;omega) _⟩
 case done =>
  rintro D ys W hD rfl ⟨⟨hne,_,_,hcr,hfr,_⟩,hB⟩ hK
  gi_wp2
  have hK':=(KeepsOthers.setCell W ⟨w.heap.size+1+1,0,none⟩ (.int .i64 (-1))).same D _ hK rfl;refine ⟨by simp,.inl ⟨_,_,rfl,run_takeDeferred hK',?_⟩⟩
  have hc5:=cell_kept (World.cell?_setCell_same' W ⟨w.heap.size+1+1,0,none⟩ (.int .i64 (-1)) (by rw [hcr];rfl)) (grownBy_putObj' _ D (.deferred none)) (fun r e=>by cases e;exact ⟨_,hK',rfl⟩)
  refine ⟨.int .i64 (-1),?_,by rw [find_none hne],(hB.setCell (p:=⟨w.heap.size+1+1,0,none⟩) (by simp;omega) _).trans (belowK_b (w:=w) (Nat.le_refl _) _ D _ _ (by simp at hD;omega) hK' rfl rfl)⟩
  simp [results,Try.f227,go_sem,hc5]
 case stop =>
  rintro D e pre W hD hpre ⟨⟨rfl,pre0,x,rfl,hp,hx,hcr⟩,hB⟩ hK
  gi_wp2
  refine ⟨by simp,.inl ⟨_,_,rfl,run_takeDeferred hK,?_⟩⟩
  have hc5:=cell_kept hcr (grownBy_putObj' _ D (.deferred none)) (fun r e=>by cases e;exact ⟨_,hK,rfl⟩)
  refine ⟨.int .i64 x,?_,by rw [find_some hpre hp hx],hB.trans (belowK_b (w:=w) (Nat.le_refl _) W D _ _ (by simp at hD;omega) hK rfl rfl)⟩
  simp [results,Try.f227,go_sem,hc5]
end UpW
namespace Sck
open Num Rd D Mem Hpw Flow HierW FormW
def brk:PanicEntry:={ v:=.iface 280 (.agg #[]),recovered:=false }
theorem info_ty:(Try.prog.info? 51).map (fun i=>(i.zero,i.size,i.bytes))=some (some (.agg #[.int .i64 0,.int .i64 0]),2,16):=by kernel_rfl
theorem keptf {B:Nat}{w w':World}{b o:Nat}{x:Bool}(hb:Below B w w') (hlt:b < B) (h:w.frozen? ⟨b,o,none⟩=x):w'.frozen? ⟨b,o,none⟩=x:=(World.frozen?_of_block (a:=⟨b,o,none⟩) (hb.block b hlt)).trans h
theorem mustT (w:World):Calls Try.prog 231 #[.bool true] w fun e w'=>e=.returned (.tuple #[])∧w=w':=by
 go_enter Try.func231,Try.ntmps231
 go_wp2
 go_end0
 exact ⟨rfl,rfl⟩
theorem mustF (w:World):Calls Try.prog 231 #[.bool false] w fun e w'=>e=.panicked [brk]∧w=w':=by
 go_enter Try.func231,Try.ntmps231
 go_wp2
 refine And.intro rfl ?_;exact ⟨rfl,rfl⟩
theorem kind (k:Int) (w:World):Calls Try.prog 229 #[.int .i64 k] w fun e w'=>e=.returned (.agg #[.int .i64 k,.int .i64 0])∧Below w.heap.size w w':=by
 go_enter Try.func229,Try.ntmps229
 go_wp2
 refine bodyPost_ret (v:=.agg #[.int .i64 k,.int .i64 0]) (by simp [results,Try.results229,go_sem] <;> go_simp) rfl ?_
 exact ⟨rfl,by exact Rd.byB⟩
theorem ref (c:Int) (w:World):Calls Try.prog 149 #[.int .i64 c] w fun e w'=>e=.returned (.agg #[.int .i64 3,.int .i64 c])∧Below w.heap.size w w':=by
 go_enter Try.func149,Try.ntmps149
 go_wp2
 refine bodyPost_ret (v:=.agg #[.int .i64 3,.int .i64 c]) (by simp [results,Try.results149,go_sem] <;> go_simp) rfl ?_
 exact ⟨rfl,by exact Rd.byB⟩
section
variable {w:World}{v:Value}{l:List Cls}
theorem isV (p:Bool) (c d:Int) (h:Cs w v l) (hw:Hier.Wf l) (hp:Hier.is l c d=p):Calls Try.prog 209 #[v,.int .i64 c,.int .i64 d] w fun e w'=>e=.returned (.bool p)∧Below w.heap.size w w':=by
 rw [← hp];exact UpW.is v l c d w h hw
theorem fits (H:Cs w v l) (hw:Hier.Wf l) (x t:Ty):Calls Try.prog 233 #[v,.agg #[.int .i64 x.kind,.int .i64 x.cls],.agg #[.int .i64 t.kind,.int .i64 t.cls]] w fun e w'=>e=.returned (.bool (Flow.fits l x t))∧Below w.heap.size w w':=by
 obtain ⟨xk,xc⟩:=x;obtain ⟨tk,tc⟩:=t;have HH:=Lib.hid H;obtain ⟨a,cap,rfl,_⟩:=H
 by_cases h3:tk=3
 ·subst h3
  by_cases h7:xk=7
  ·subst h7;have hf:Hid (Flow.fits l ⟨7,xc⟩ ⟨3,tc⟩=true):=by show _=_;simp [Flow.fits]
   go_enter Try.func233,Try.ntmps233
   go_wp2
   go_ret;exact ⟨ret_bool hf.out.symm,by exact Rd.byB⟩
  ·have q7:(xk==7)=false:=by simpa using h7
   by_cases h3:xk=3
   ·subst h3;obtain ⟨p,hp⟩:∃ p,Hid (Hier.is l xc tc=p):=⟨_,rfl⟩;have hf:Hid (Flow.fits l ⟨3,xc⟩ ⟨3,tc⟩=p):=by show _=_;rw [← hp.out];simp [Flow.fits]
    go_enter Try.func233,Try.ntmps233
    go_wp2_with (go_at_call 209;refine (isV p _ _ (HH.out.next (by exact Rd.byB)) hw hp.out).mono ?_;rintro e w2 ⟨rfl,hb2⟩)
    go_ret;exact ⟨ret_bool hf.out.symm,by exact Below.trans Rd.byB (hb2.mono Rd.byL)⟩
   ·have q3:(xk==3)=false:=by simpa using h3
    have hf:Hid (Flow.fits l ⟨xk,xc⟩ ⟨3,tc⟩=false):=by show _=_;simp [Flow.fits,h7,h3]
    go_enter Try.func233,Try.ntmps233
    go_wp2
    go_ret;exact ⟨ret_bool hf.out.symm,by exact Rd.byB⟩
 ·have q3:(tk==3)=false:=by simpa using h3
  have hf:Hid (Flow.fits l ⟨xk,xc⟩ ⟨tk,tc⟩=(xk==tk)):=by show _=_;simp [Flow.fits,h3];rfl
  go_enter Try.func233,Try.ntmps233
  go_wp2
  go_ret;exact ⟨ret_bool hf.out.symm,by exact Rd.byB⟩
theorem meetV (x:Int) (c d:Int) (h:Cs w v l) (hw:Hier.Wf l) (hp:Hier.meet l c d=x):Calls Try.prog 227 #[v,.int .i64 c,.int .i64 d] w fun e w'=>e=.returned (.int .i64 x)∧Below w.heap.size w w':=by
 rw [← hp];exact UpW.meet v l c d w h hw
theorem ret_ty {a b:Ty}(h:a=b):Ending.returned (.agg #[.int .i64 a.kind,.int .i64 a.cls])=.returned (.agg #[.int .i64 b.kind,.int .i64 b.cls]):=by rw [h]
theorem both (H:Cs w v l) (hw:Hier.Wf l) (x t:Ty):Calls Try.prog 194 #[v,.agg #[.int .i64 x.kind,.int .i64 x.cls],.agg #[.int .i64 t.kind,.int .i64 t.cls]] w fun e w'=>e=.returned (.agg #[.int .i64 (Flow.both l x t).kind,.int .i64 (Flow.both l x t).cls])∧Below w.heap.size w w':=by
 have HH:=Lib.hid H;obtain ⟨a,cap,rfl,_⟩:=H
 by_cases e:x=t
 ·have hf:Hid (Flow.both l x t=x):=by show _=_;unfold Flow.both;rw [if_pos e]
  subst e;have q1:(x.kind==x.kind && x.cls==x.cls)=true:=by simp
  have hq:=run_eql_ty;have hg:=run_guard_ty;obtain ⟨xk,xc⟩:=x
  go_enter Try.func194,Try.ntmps194
  go_wp2
  refine bodyPost_ret (v:=.agg #[.int .i64 xk,.int .i64 xc]) (by simp [results,Try.results194,go_sem] <;> go_simp) rfl ?_
  exact ⟨ret_ty (a:=⟨xk,xc⟩) hf.out.symm,by exact Rd.byB⟩
 ·have q1:(x.kind==t.kind && x.cls==t.cls)=false:=by
   cases h:(x.kind==t.kind && x.cls==t.cls)
   ·rfl
   ·simp at h;exact absurd (Flow.ty_ext h.1 h.2) e
  have hf0:Hid (Flow.both l x t=if x.kind=7∧t.kind=3 then t else if t.kind=7∧x.kind=3 then x else if x.kind=3∧t.kind=3 then ⟨3,Hier.meet l x.cls t.cls⟩ else none_):=by show _=_;unfold Flow.both;rw [if_neg e]
  have hq:=run_eql_ty;have hg:=run_guard_ty;obtain ⟨xk,xc⟩:=x;obtain ⟨tk,tc⟩:=t;simp only at q1;clear e
  by_cases a1:xk=7
  ·subst a1
   by_cases a2:tk=3
   ·subst a2;have hf:Hid (Flow.both l ⟨7,xc⟩ ⟨3,tc⟩=⟨3,tc⟩):=by show _=_;rw [hf0.out];simp
    go_enter Try.func194,Try.ntmps194
    go_wp2
    refine bodyPost_ret (v:=.agg #[.int .i64 3,.int .i64 tc]) (by simp [results,Try.results194,go_sem] <;> go_simp) rfl ?_
    exact ⟨ret_ty (a:=⟨3,tc⟩) hf.out.symm,by exact Rd.byB⟩
   ·have a2':(tk==3)=false:=by simpa using a2
    have hf:Hid (Flow.both l ⟨7,xc⟩ ⟨tk,tc⟩=none_):=by show _=_;rw [hf0.out];simp [a2]
    by_cases a3:tk=7
    ·subst a3;have q2:(xc==tc)=false:=by simpa using q1
     go_enter Try.func194,Try.ntmps194
     go_wp2
     refine bodyPost_ret (v:=.agg #[.int .i64 0,.int .i64 0]) (by simp [results,Try.results194,go_sem] <;> go_simp) rfl ?_
     exact ⟨ret_ty (a:=⟨0,0⟩) hf.out.symm,by exact Rd.byB⟩
    ·have a3':(tk==7)=false:=by simpa using a3
     go_enter Try.func194,Try.ntmps194
     go_wp2
     refine bodyPost_ret (v:=.agg #[.int .i64 0,.int .i64 0]) (by simp [results,Try.results194,go_sem] <;> go_simp) rfl ?_
     exact ⟨ret_ty (a:=⟨0,0⟩) hf.out.symm,by exact Rd.byB⟩
  ·have a1':(xk==7)=false:=by simpa using a1
   by_cases b1:xk=3
   ·subst b1
    by_cases a3:tk=7
    ·subst a3;have hf:Hid (Flow.both l ⟨3,xc⟩ ⟨7,tc⟩=⟨3,xc⟩):=by show _=_;rw [hf0.out];simp
     go_enter Try.func194,Try.ntmps194
     go_wp2
     refine bodyPost_ret (v:=.agg #[.int .i64 3,.int .i64 xc]) (by simp [results,Try.results194,go_sem] <;> go_simp) rfl ?_
     exact ⟨ret_ty (a:=⟨3,xc⟩) hf.out.symm,by exact Rd.byB⟩
    ·have a3':(tk==7)=false:=by simpa using a3
     by_cases a2:tk=3
     ·subst a2;have q2:(xc==tc)=false:=by simpa using q1
      obtain ⟨m,hm⟩:∃ m,Hid (Hier.meet l xc tc=m):=⟨_,rfl⟩;have hf:Hid (Flow.both l ⟨3,xc⟩ ⟨3,tc⟩=⟨3,m⟩):=by show _=_;rw [hf0.out];simp [hm.out]
      go_enter Try.func194,Try.ntmps194
      go_wp2_with (go_at_call 227;refine (meetV m _ _ (HH.out.next (by exact Rd.byB)) hw hm.out).mono ?_;rintro e w2 ⟨rfl,hb2⟩;have c6:w2.cell? ⟨w.heap.size+1+1,0,none⟩=some (.int .i64 0):=kept hb2 (by simp) (by go_simp);have c7:w2.cell? ⟨w.heap.size+1+1,1,none⟩=some (.int .i64 0):=kept hb2 (by simp) (by go_simp);have f6:w2.frozen? ⟨w.heap.size+1+1,0,none⟩=false:=keptf hb2 (by simp) (by go_simp);have f7:w2.frozen? ⟨w.heap.size+1+1,1,none⟩=false:=keptf hb2 (by simp) (by go_simp))
      refine bodyPost_ret (v:=.agg #[.int .i64 3,.int .i64 m]) (by simp [results,Try.results194,go_sem] <;> go_simp) rfl ?_
      exact ⟨ret_ty (a:=⟨3,m⟩) hf.out.symm,by exact Below.setCell (Below.setCell (Below.trans Rd.byB (hb2.mono Rd.byL)) Rd.byL _) Rd.byL _⟩
     ·have a2':(tk==3)=false:=by simpa using a2
      have hf:Hid (Flow.both l ⟨3,xc⟩ ⟨tk,tc⟩=none_):=by show _=_;rw [hf0.out];simp [a2,a3]
      go_enter Try.func194,Try.ntmps194
      go_wp2
      refine bodyPost_ret (v:=.agg #[.int .i64 0,.int .i64 0]) (by simp [results,Try.results194,go_sem] <;> go_simp) rfl ?_
      exact ⟨ret_ty (a:=⟨0,0⟩) hf.out.symm,by exact Rd.byB⟩
   ·have b1':(xk==3)=false:=by simpa using b1
    have hf:Hid (Flow.both l ⟨xk,xc⟩ ⟨tk,tc⟩=none_):=by show _=_;rw [hf0.out];simp [a1,b1]
    by_cases a3:tk=7
    ·subst a3
     go_enter Try.func194,Try.ntmps194
     go_wp2
     refine bodyPost_ret (v:=.agg #[.int .i64 0,.int .i64 0]) (by simp [results,Try.results194,go_sem] <;> go_simp) rfl ?_
     exact ⟨ret_ty (a:=⟨0,0⟩) hf.out.symm,by exact Rd.byB⟩
    ·have a3':(tk==7)=false:=by simpa using a3
     go_enter Try.func194,Try.ntmps194
     go_wp2
     refine bodyPost_ret (v:=.agg #[.int .i64 0,.int .i64 0]) (by simp [results,Try.results194,go_sem] <;> go_simp) rfl ?_
     exact ⟨ret_ty (a:=⟨0,0⟩) hf.out.symm,by exact Rd.byB⟩
end
end Sck
namespace Sck
open Num Rd D Mem Hpw Flow HierW FormW
section
variable {w:World}{X:Nat→Prop}{v:Value}{l:List Ty}
set_option maxRecDepth 100000 in
theorem cloneT (h:TS w X v l) (hl:l.length≤1000000):Calls Try.prog 128 #[v] w fun e w'=>∃ v',e=.returned v'∧TR w' w.heap.size v' l∧Below w.heap.size w w':=by
 obtain ⟨io,hi',hy0,hy1,hy2⟩:=info_parts info_ty;have qT:∀ (w:World) (a:Option Addr) (n c n' c':Nat),(binOp .eql 49 (.slice a n c) (.slice none n' c')).run Try.prog w=.ok (.bool a.isNone) w:=fun w a n c n' c'=>Lib.run_eql_slice_nil w _ _ a n c n' c' Try.underlying49;have HH:=Lib.hid h;obtain ⟨a,cap,rfl,hc1,hc2⟩:=h.len;clear h
 have news:Hid (∀ j u,(tcells l)[j]? = some u→∀ b o,a=some ⟨b,o,none⟩→w.cell? ⟨b,o+j,none⟩=some u):=by
  intro j u hj b o e
  subst e;have hl:j < l.length*2:=by rw [← tcells_len];exact (List.getElem?_eq_some_iff.1 hj).1
  obtain ⟨b2,o2,cap2,e2,_,_,_,_,hcs⟩:=HH.out.cells (by omega)
  simp only [Value.slice.injEq,Option.some.injEq,Addr.mk.injEq,and_true,true_and] at e2;obtain ⟨⟨rfl,rfl⟩,_⟩:=e2;obtain ⟨z0,z1⟩:=hcs (j / 2) (by omega)
  obtain ⟨g0,g1⟩:=tcells_get (l:=l) (i:=j / 2) (by omega)
  rcases (show j=j / 2*2∨j=j / 2*2+1 by omega) with e | e
  ·rw [e] at hj ⊢;rw [g0] at hj;injection hj with hj;rw [← hj];exact z0
  ·rw [e] at hj ⊢;rw [g1] at hj;injection hj with hj;rw [← hj,← Nat.add_assoc];exact z1
 cases a with
 | none =>
  have hn:l=[]:=by
   refine List.eq_nil_of_length_eq_zero (Nat.eq_zero_of_not_pos fun h0=>?_);obtain ⟨b2,o2,cap2,e2,_⟩:=HH.out.cells h0;simp at e2
  subst hn
  go_enter Try.func128,Try.ntmps128
  go_wp2
  go_ret;exact ⟨_,rfl,⟨World.ownsRow_nil _ _ _ _,HH.out.2⟩,by exact Rd.byB⟩
 | some ad =>
  have hone:∀ u∈tcells l,u.oneCell'=true:=by
   intro u hu
   unfold tcells vcells at hu;obtain ⟨x,_,hx⟩:=List.mem_flatMap.1 hu;simp only [vcell,List.mem_cons,List.not_mem_nil,or_false] at hx
   rcases hx with rfl | rfl <;> rfl
  go_enter Try.func128,Try.ntmps128
  go_wp2_with (at_builtin;refine wpList_append_own _ rfl _ _ 49 rfl w.heap.size 51 io (.agg #[.int .i64 0,.int .i64 0]) 2 16 Try.underlying49 hi' hy0 hy1 hy2 rfl (by decide) _ _ _ rfl (World.ownsRow_made w #[] 0 (Nat.le_refl _) (Nat.zero_le _) rfl) ad l.length cap (tcells l) rfl ?qc1 ?qc2 ?qc3 ?qc4 ?qc5 ?qc6 ?_)
  case qc1=>rw [tcells_len]
  case qc2 =>
   intro j u hj
   have hl:j < l.length*2:=by rw [← tcells_len];exact (List.getElem?_eq_some_iff.1 hj).1
   obtain ⟨b2,o2,cap2,e2,_⟩:=HH.out.cells (by omega)
   simp only [Value.slice.injEq,Option.some.injEq] at e2;obtain ⟨rfl,_⟩:=e2;rw [Addr.add_lit];exact Lib.cell?_alloc_some _ (news.out j u hj b2 o2 rfl)
  case qc3=>exact hone
  case qc4=>unfold maxLen;omega
  case qc5=>omega
  case qc6=>simp
  intro v' w1 hown hgrow hnil
  go_wp2
  go_ret;refine ⟨v',rfl,⟨by simpa using hown,HH.out.2⟩,?_⟩
  exact ((Below.refl _ w).alloc (Nat.le_refl _) _).grown hgrow (by simp) (by intro k hk;simp [Value.ownBlock] at hk;omega)
variable {s:State}
def CloneR (w:World) (s:State) (e:Ending) (w':World):Prop:=∃ vs vk,e=.returned (.agg #[vs,vk,.bool s.broken])∧TR w' w.heap.size vs s.slots∧TR w' w.heap.size vk s.stack∧(∀ g,vs.ownBlock=some g→vk.ownBlock≠some g)∧Below w.heap.size w w'
set_option maxRecDepth 100000 in
theorem clone (h:VSt w X v s) (h1:s.slots.length≤1000000) (h2:s.stack.length≤1000000):Calls Try.prog 144 #[v] w (CloneR w s):=by
 obtain ⟨va,vb,rfl,t1,t2⟩:=h;have T1:=Lib.hid t1;have T2:=Lib.hid t2;obtain ⟨a,cap,rfl,_⟩:=t1.len;obtain ⟨a2,cap2,rfl,_⟩:=t2.len;clear t1 t2;obtain ⟨sl,st,b⟩:=s;simp only at h1 h2 T1 T2
 have E0:∀ W:World,Below (w.heap.size+2) ((w.alloc (.cells #[.slice a sl.length cap,.slice a2 st.length cap2,.bool b] 157)).alloc (.cells #[.slice none 0 0,.slice none 0 0,.bool false] 157)) W→(W.cell? ⟨w.heap.size,0,none⟩=some (.slice a sl.length cap)∧W.cell? ⟨w.heap.size,1,none⟩=some (.slice a2 st.length cap2)∧W.cell? ⟨w.heap.size,2,none⟩=some (.bool b))∧((W.cell? ⟨w.heap.size+1,0,none⟩=some (.slice none 0 0)∧W.cell? ⟨w.heap.size+1,1,none⟩=some (.slice none 0 0)∧W.cell? ⟨w.heap.size+1,2,none⟩=some (.bool false))∧W.frozen? ⟨w.heap.size+1,0,none⟩=false∧W.frozen? ⟨w.heap.size+1,1,none⟩=false∧W.frozen? ⟨w.heap.size+1,2,none⟩=false):=fun W hb =>
  ⟨⟨kept hb (by omega) (by go_simp),kept hb (by omega) (by go_simp),kept hb (by omega) (by go_simp)⟩,⟨kept hb (by omega) (by go_simp),kept hb (by omega) (by go_simp),kept hb (by omega) (by go_simp)⟩,keptf hb (by omega) (by go_simp),keptf hb (by omega) (by go_simp),keptf hb (by omega) (by go_simp)⟩
 go_enter Try.func144,Try.ntmps144
 go_wp2_with fail
 generalize hW:(w.alloc (.cells #[.slice a sl.length cap,.slice a2 st.length cap2,.bool b] 157)).alloc (.cells #[.slice none 0 0,.slice none 0 0,.bool false] 157)=W at E0 ⊢
 have hbW:Below w.heap.size w W:=by rw [← hW];exact Rd.byB
 have hsW:W.heap.size=w.heap.size+2:=by rw [← hW];simp
 obtain ⟨⟨b0,b1,b2⟩,_⟩:=E0 W (Below.refl _ _);refine Drawn.hd (fun w'=>w'.cell? ⟨w.heap.size,0,none⟩=some (.slice a sl.length cap)∧w'.cell? ⟨w.heap.size,1,none⟩=some (.slice a2 st.length cap2)∧w'.cell? ⟨w.heap.size,2,none⟩=some (.bool b)) (hS:=by (try dsimp only);exact ⟨b0,b1,b2⟩) (h:=fun hHeld=>?_)
 refine dT 0 3 ?_;refine dT 1 4 ?_;refine dT 3 6 ?_;refine dT 4 7 ?_;refine dT 6 9 ?_;refine dT 7 10 ?_;refine Drawn.cl 2 (fun K hK=>?_);go_simp
 go_at_call 128
 refine (cloneT (T1.out.below (X':=fun _=>False) (by exact Rd.byB) (fun _ _ e=>e.elim)) h1).mono ?_
 rintro e w2 ⟨v1,rfl,r1,hb2⟩;obtain ⟨g1,c1,rfl⟩:=r1.any;replace r1:=Lib.hid r1;obtain ⟨⟨d0,d1,d2⟩,_⟩:=E0 w2 (Below.trans (by exact Rd.byB) (hb2.mono Rd.byL))
 go_wp2_with fail
 refine Drawn.bk hK (hS:=by (try dsimp only);exact ⟨d0,d1,d2⟩) (h:=fun hHeld=>?_)
 clear hK K;refine Drawn.cl 5 (fun K hK=>?_);go_simp
 go_at_call 128
 refine (cloneT (T2.out.below (X':=fun _=>False) (Below.trans (by exact Rd.byB) (hb2.mono Rd.byL)) (fun _ _ e=>e.elim)) h2).mono ?_
 rintro e w3 ⟨v2,rfl,r2,hb3⟩;obtain ⟨g2,c2,rfl⟩:=r2.any;replace r2:=Lib.hid r2;have hbA:Below (w.heap.size+2) W w3:=Below.trans (Below.trans (by exact Rd.byB) (hb2.mono Rd.byL)) (hb3.mono (by have:=hb2.size;simp at this ⊢;omega))
 obtain ⟨⟨d0,d1,d2⟩,⟨d3,d4,d5⟩,d6,d7,d8⟩:=E0 w3 hbA
 go_wp2_with fail
 refine Drawn.bk hK (hS:=by (try dsimp only);exact ⟨d0,d1,d2⟩) (h:=fun hHeld=>?_)
 clear hK K;refine dT 8 11 ?_;refine Drawn.cl 9 (fun K hK=>?_);go_simp;refine Drawn.bk hK (h:=fun hHeld=>?_);clear hK K;refine dN ?_
 go_wp2
 refine bodyPost_ret (v:=.agg #[.slice g1 sl.length c1,.slice g2 st.length c2,.bool b]) (by simp [results,Try.results144,go_sem] <;> go_simp) rfl ?_
 have s2:=hb2.size;have s3:=hb3.size;simp at s2 s3
 have K:Kp (fun k=>k=w.heap.size+1) w3 (((w3.setCell ⟨w.heap.size+1,0,none⟩ (.slice g1 sl.length c1)).setCell ⟨w.heap.size+1,1,none⟩ (.slice g2 st.length c2)).setCell ⟨w.heap.size+1,2,none⟩ (.bool b)) :=
  (((Kp.refl (fun k=>k=w.heap.size+1) w3).setCell (p:=⟨w.heap.size+1,0,none⟩) (.inl rfl) _).setCell (p:=⟨w.heap.size+1,1,none⟩) (.inl rfl) _).setCell (p:=⟨w.heap.size+1,2,none⟩) (.inl rfl) _
 have q1:∀ g,(Value.slice g1 sl.length c1).ownBlock=some g→W.heap.size≤g∧g < w2.heap.size:=fun g hg=>by have:=r1.out.lt hg;(try simp at this);omega
 have q2:∀ g,(Value.slice g2 st.length c2).ownBlock=some g→w2.heap.size≤g:=fun g hg=>by have:=r2.out.lt hg;(try simp at this);omega
 have hb3':Below w2.heap.size w2 w3:=Below.trans (by exact Rd.byB) (hb3.mono Rd.byL)
 refine ⟨_,_,rfl,((r1.out.below hb3').keep K (fun g hg e=>by have:=q1 g hg;omega)).low Rd.byL,(r2.out.keep K (fun g hg e=>by have:=q2 g hg;omega)).low Rd.byL,fun g h3 h4=>by have:=q1 g h3;have:=q2 g h4;omega,?_⟩
 exact (hbW.trans (hbA.mono (by omega))).trans (K.below (by omega) (fun k e=>by omega))
end
end Sck
namespace Sck
open Num Rd D Mem Hpw Flow HierW FormW
section
variable {w:World}{b o base g cap:Nat}{vs:Value}{l:List Ty}
def LoseR (w:World) (base:Nat) (vs:Value) (l:List Ty) (e:Ending) (w':World):Prop:=e=.returned (.tuple #[])∧TR w' base vs l∧Kp (fun k=>vs.ownBlock=some k) w w'
theorem kd_lt {l:List Ty}{a:Nat}(h:kd l a≠0):a < l.length:=by
 refine Nat.lt_of_not_le fun hle=>h ?_;unfold kd;rw [List.getD_eq_getElem?_getD,List.getElem?_eq_none hle];rfl
theorem lose (hc:w.cell? ⟨b,o,none⟩=some vs) (hr:TR w base vs l) (hne:vs.ownBlock≠some b) (a:Nat) (ha:a < l.length) (hp:Paired l) (hbig:l.length≤1000000) :
  Calls Try.prog 143 #[.pointer (some ⟨b,o,none⟩),.int .i64 a] w (LoseR w base vs (Flow.lose l a)):=by
 obtain ⟨g,cap,rfl,k1,k2,k3,k4,hcs⟩:=hr.form (by omega)
 have HR:=Lib.hid hr;have hgb:¬ g=b:=fun e=>hne (by rw [← e];rfl)
 have hbg:¬ b=g:=fun e=>hgb e.symm;obtain ⟨z0,z1,z2,z3⟩:=hcs a ha;have ha2:(a:Int) < l.length:=by omega
 have kp:∀ (W:World) (j:Nat) (u:Value),Kp (fun k=>(Value.slice (some ⟨g,0,none⟩) l.length cap).ownBlock=some k) w W→Kp (fun k=>(Value.slice (some ⟨g,0,none⟩) l.length cap).ownBlock=some k) w (W.setCell ⟨g,j,none⟩ u):=fun W j u K=>K.setCell (p:=⟨g,j,none⟩) (.inl rfl) u
 by_cases h5:kd l a=5
 ·have ha1:=kd_lt (l:=l) (a:=a+1) (by rw [hp.1 a h5];decide)
  obtain ⟨y0,y1,y2,y3⟩:=hcs (a+1) ha1;have e5:Hid (Flow.lose l a=(l.set (a+1) none_).set a none_):=by show _=_;unfold Flow.lose;rw [if_pos h5]
  unfold kd at h5;rw [h5] at z0;have ha12:((a+1:Nat):Int) < l.length:=by omega
  have s1:IntKind.i64.wrap ((a:Int)+1)=((a+1:Nat):Int):=by rw [Num.wrap_i64,wrap64_id (by unfold Ok;omega)];omega
  clear h5 hcs hr
  go_enter Try.func143,Try.ntmps143
  go_wp2
  go_end0
  refine ⟨rfl,?_,kp _ _ _ (kp _ _ _ (kp _ _ _ (kp _ _ _ (Kp.refl _ w))))⟩;rw [e5.out];have T1:=HR.out.set (i:=a+1) ha1 tok_none;have T2:=TR.set (l:=l.set (a+1) none_) (cap:=cap) (by simpa using T1) (i:=a) (by simpa using ha) tok_none
  simpa [none_] using T2
 ·obtain ⟨t,ht⟩:∃ t,Hid (l.getD a none_=t):=⟨_,rfl⟩;have q5:(t.kind==5)=false:=by rw [← ht.out];simpa [kd] using h5
  rw [ht.out] at z0 z1
  by_cases h6:kd l a=6
  ·have ha0:=(hp.2 a h6).1;obtain ⟨y0,y1,y2,y3⟩:=hcs (a - 1) (by omega)
   have e6:Hid (Flow.lose l a=(l.set (a - 1) none_).set a none_):=by show _=_;unfold Flow.lose;rw [if_neg h5,if_pos h6]
   unfold kd at h6;rw [ht.out] at h6;rw [h6] at z0 q5;have ha12:((a - 1:Nat):Int) < l.length:=by omega
   have s1:IntKind.i64.wrap ((a:Int) - 1)=((a - 1:Nat):Int):=by rw [Num.wrap_i64,wrap64_id (by unfold Ok;omega)];omega
   have s2:(a:Int) - 1=((a - 1:Nat):Int):=by omega
   clear h5 h6 hcs hr
   go_enter Try.func143,Try.ntmps143
   go_wp2
   go_end0
   refine ⟨rfl,?_,kp _ _ _ (kp _ _ _ (kp _ _ _ (kp _ _ _ (Kp.refl _ w))))⟩;rw [e6.out];have T1:=HR.out.set (i:=a - 1) (by omega) tok_none
   have T2:=TR.set (l:=l.set (a - 1) none_) (cap:=cap) (by simpa using T1) (i:=a) (by simpa using ha) tok_none
   simpa [none_] using T2
  ·have q6:(t.kind==6)=false:=by rw [← ht.out];simpa [kd] using h6
   have e0:Hid (Flow.lose l a=l.set a none_):=by show _=_;unfold Flow.lose;rw [if_neg h5,if_neg h6]
   clear h5 h6 hcs hr
   go_enter Try.func143,Try.ntmps143
   go_wp2
   go_end0
   refine ⟨rfl,?_,kp _ _ _ (kp _ _ _ (Kp.refl _ w))⟩;rw [e0.out];exact HR.out.set (i:=a) ha tok_none
theorem TR.at_ (h:TR w base (.slice (some ⟨g,0,none⟩) l.length cap) l){i:Nat}(hi:i < l.length):w.cell? ⟨g,i*2,none⟩=some (.int .i64 (l.getD i none_).kind)∧w.cell? ⟨g,i*2+1,none⟩=some (.int .i64 (l.getD i none_).cls)∧w.frozen? ⟨g,i*2,none⟩=false∧w.frozen? ⟨g,i*2+1,none⟩=false:=by
 obtain ⟨g2,cap2,e,_,_,_,_,h2⟩:=h.form (by omega)
 simp only [Value.slice.injEq,Option.some.injEq,Addr.mk.injEq,and_true,true_and] at e;obtain ⟨rfl,_⟩:=e;exact h2 i hi
set_option maxRecDepth 100000 in
theorem store (hc:w.cell? ⟨b,o,none⟩=some vs) (hr:TR w base vs l) (hne:vs.ownBlock≠some b) (a:Nat) (x:Ty) (hx:TOk x) (ha:a < l.length) (ha2:x.kind=2→a+1 < l.length) (hp:Paired l) (hbig:l.length≤1000000) :
  Calls Try.prog 91 #[.pointer (some ⟨b,o,none⟩),.int .i64 a,.agg #[.int .i64 x.kind,.int .i64 x.cls]] w fun e w'=>e=.returned (.tuple #[])∧TR w' base vs (Flow.store l a x)∧Kp (fun k=>vs.ownBlock=some k) w w':=by
 obtain ⟨g,cap,rfl,k1,k2,k3,k4,_⟩:=hr.form (by omega)
 have HR:=Lib.hid hr;have hgb:¬ g=b:=fun e=>hne (by rw [← e];rfl)
 have hbg:¬ b=g:=fun e=>hgb e.symm;have hlb:=cell_lt hc;have hlb1:b < w.heap.size+1:=by omega
 have ha3:(a:Int) < l.length:=by omega
 have kX:∀ (W W2:World),Below W.heap.size W W2→Kp (fun k=>(Value.slice (some ⟨g,0,none⟩) l.length cap).ownBlock=some k) W W2:=fun W W2 hb=>Kp.of_below hb (Nat.le_refl _);have kp:∀ (W W':World) (j:Nat) (u:Value),Kp (fun k=>(Value.slice (some ⟨g,0,none⟩) l.length cap).ownBlock=some k) W' W→Kp (fun k=>(Value.slice (some ⟨g,0,none⟩) l.length cap).ownBlock=some k) W' (W.setCell ⟨g,j,none⟩ u):=fun W W' j u K=>K.setCell (p:=⟨g,j,none⟩) (.inl rfl) u;obtain ⟨xk,xc⟩:=x;have nb:∀ k,(Value.slice (some ⟨g,0,none⟩) l.length cap).ownBlock=some k→k=g:=fun k e=>by simpa [Value.ownBlock,eq_comm] using e
 by_cases h2:xk=2
 ·subst h2;have ha4:=ha2 rfl;have ha5:((a+1:Nat):Int) < l.length:=by omega
  have hp2:=Chk.lose_paired hp a;have hl2:=Chk.lose_len l a;have hl3:=Chk.lose_len (Flow.lose l a) (a+1);have e2:Hid (Flow.store l a ⟨2,xc⟩=((Flow.lose (Flow.lose l a) (a+1)).set a ⟨5,0⟩).set (a+1) ⟨6,0⟩):=by show _=_;unfold Flow.store;rw [if_neg (by simp)]
  have s1:IntKind.i64.wrap ((a:Int)+1)=((a+1:Nat):Int):=by rw [Num.wrap_i64,wrap64_id (by unfold Ok;omega)];omega
  clear hr
  go_enter Try.func91,Try.ntmps91
  go_wp2_with (first
   | (go_at_call 143;rw [show ((a:Int)+1)=((a+1:Nat):Int) by omega];refine (lose (l:=Flow.lose l a) (base:=base) (vs:=.slice (some ⟨g,0,none⟩) l.length cap) d0 T2.out hne (a+1) (by omega) hp2 (by omega)).mono ?_;rintro e w3 ⟨rfl,T3,K3⟩;have d3:w3.cell? ⟨b,o,none⟩=some (.slice (some ⟨g,0,none⟩) l.length cap):=K3.cell d0 (fun e=>hbg (nb _ e));obtain ⟨y0,y1,y2,y3⟩:=TR.at_ (l:=Flow.lose (Flow.lose l a) (a+1)) (by rw [hl3,hl2];exact T3) (i:=a) (by omega);obtain ⟨z0,z1,z2,z3⟩:=TR.at_ (l:=Flow.lose (Flow.lose l a) (a+1)) (by rw [hl3,hl2];exact T3) (i:=a+1) (by omega);replace K3:=Lib.hid K3;replace T3:=Lib.hid T3)
   | (go_at_call 143;refine (lose (l:=l) (base:=base) (vs:=.slice (some ⟨g,0,none⟩) l.length cap) (by go_simp) (HR.out.below (by exact Rd.byB)) hne a ha hp hbig).mono ?_;rintro e w2 ⟨rfl,T2,K2⟩;have d0:w2.cell? ⟨b,o,none⟩=some (.slice (some ⟨g,0,none⟩) l.length cap):=K2.cell (by go_simp) (fun e=>hbg (nb _ e));have d1:w2.cell? ⟨w.heap.size,0,none⟩=some (.int .i64 2):=K2.cell (by go_simp) (fun e=>by have:=nb _ e;omega);have d2:w2.cell? ⟨w.heap.size,1,none⟩=some (.int .i64 xc):=K2.cell (by go_simp) (fun e=>by have:=nb _ e;omega);replace K2:=Lib.hid K2;replace T2:=Lib.hid T2))
  go_region
  all_goals
   go_end0
   refine ⟨rfl,?_,Kp.drew (kp _ _ _ _ (kp _ _ _ _ (kp _ _ _ _ (kp _ _ _ _ (((kX w _ (by exact Rd.byB)).trans K2.out (fun k e=>.inl e)).trans K3.out (fun k e=>.inl e))))))⟩
   rw [e2.out];have T4:=TR.set (l:=Flow.lose (Flow.lose l a) (a+1)) (t:=⟨5,0⟩) (by rw [hl3,hl2];exact T3.out) (i:=a) (by omega) ⟨by unfold Ok;simp only;omega,by unfold Ok;simp only;omega⟩
   have T5:=TR.set (l:=(Flow.lose (Flow.lose l a) (a+1)).set a ⟨5,0⟩) (t:=⟨6,0⟩) (by rw [List.length_set];exact T4) (i:=a+1) (by simp;omega) ⟨by unfold Ok;simp only;omega,by unfold Ok;simp only;omega⟩
   rw [List.length_set,hl3,hl2] at T5;exact T5.keep (X:=fun _=>False) (Kp.drew (Kp.refl _ _)) (fun _ _ e=>e)
 ·have q2:(xk==2)=false:=by simpa using h2
  have q2':(xk != 2)=true:=by simpa using h2
  have hl2:=Chk.lose_len l a;have e2:Hid (Flow.store l a ⟨xk,xc⟩=(Flow.lose l a).set a ⟨xk,xc⟩):=by show _=_;unfold Flow.store;rw [if_pos h2]
  clear hr
  go_enter Try.func91,Try.ntmps91
  go_wp2_with (go_at_call 143;refine (lose (l:=l) (base:=base) (vs:=.slice (some ⟨g,0,none⟩) l.length cap) (by go_simp) (HR.out.below (by exact Rd.byB)) hne a ha hp hbig).mono ?_;rintro e w2 ⟨rfl,T2,K2⟩;have d0:w2.cell? ⟨b,o,none⟩=some (.slice (some ⟨g,0,none⟩) l.length cap):=K2.cell (by go_simp) (fun e=>hbg (nb _ e));have d1:w2.cell? ⟨w.heap.size,0,none⟩=some (.int .i64 xk):=K2.cell (by go_simp) (fun e=>by have:=nb _ e;omega);have d2:w2.cell? ⟨w.heap.size,1,none⟩=some (.int .i64 xc):=K2.cell (by go_simp) (fun e=>by have:=nb _ e;omega);obtain ⟨y0,y1,y2,y3⟩:=TR.at_ (l:=Flow.lose l a) (by rw [hl2];exact T2) (i:=a) (by omega);replace K2:=Lib.hid K2;replace T2:=Lib.hid T2)
  go_region
  all_goals
   go_wp2
   ((try simp only [Exit.inBlock,Exit.then]);refine bodyPost_ret (results_none rfl _ _ _) rfl ?_)
   refine ⟨rfl,?_,Kp.drew (kp _ _ _ _ (kp _ _ _ _ ((kX w _ (by exact Rd.byB)).trans K2.out (fun k e=>.inl e))))⟩
   rw [e2.out];have T3:=TR.set (l:=Flow.lose l a) (by rw [hl2];exact T2.out) (i:=a) (by omega) hx
   rw [hl2] at T3;exact T3.keep (X:=fun _=>False) (Kp.drew (Kp.refl _ _)) (fun _ _ e=>e)
end
end Sck
namespace Sck
open Num Rd D Mem Hpw Flow HierW FormW
section
variable {w:World}{b o base g cap:Nat}{vs:Value}{l:List Ty}
def LoadR (w:World) (x:Ty) (p:Bool) (e:Ending) (w':World):Prop:=e=.returned (.tuple #[.agg #[.int .i64 x.kind,.int .i64 x.cls],.bool p])∧Below w.heap.size w w'
set_option maxRecDepth 100000 in
theorem load (hc:w.cell? ⟨b,o,none⟩=some vs) (hr:TR w base vs l) (a:Nat) (k:Int) (ha:a < l.length) (hp:Paired l) (hbig:l.length≤1000000) :
  Calls Try.prog 230 #[.pointer (some ⟨b,o,none⟩),.int .i64 a,.int .i64 k] w (LoadR w (loadV l a k) (loadB l a k)):=by
 obtain ⟨g,cap,rfl,k1,k2,k3,k4,hcs⟩:=hr.form (by omega)
 have hlb:=cell_lt hc;have hlb1:b < w.heap.size+1:=by omega
 have hlb2:b < w.heap.size+1+1:=by omega
 have g1:g < w.heap.size+1:=by omega
 have g2:g < w.heap.size+1+1:=by omega
 have ha3:(a:Int) < l.length:=by omega
 obtain ⟨z0,z1,z2,z3⟩:=hcs a ha;obtain ⟨t,ht⟩:∃ t,Hid (l.getD a none_=t):=⟨_,rfl⟩;rw [ht.out] at z0 z1
 by_cases q2:k=2
 ·subst q2;have hv:Hid (loadV l a 2=⟨2,0⟩):=by show _=_;unfold loadV;rw [if_pos rfl]
  by_cases h5:t.kind=5
  ·have h5':kd l a=5:=by unfold kd;rw [ht.out];exact h5
   have h6:=hp.1 a h5';have hb:Hid (loadB l a 2=true):=by show _=_;unfold loadB;rw [if_pos rfl,h5',h6];rfl
   have ha1:=kd_lt (l:=l) (a:=a+1) (by rw [h6];decide)
   obtain ⟨y0,y1,y2,y3⟩:=hcs (a+1) ha1;unfold kd at h6;rw [h6] at y0;rw [h5] at z0;have ha12:((a+1:Nat):Int) < l.length:=by omega
   have s1:IntKind.i64.wrap ((a:Int)+1)=((a+1:Nat):Int):=by rw [Num.wrap_i64,wrap64_id (by unfold Ok;omega)];omega
   rw [hv.out,hb.out];clear hr hcs h5 h5' h6 hp
   go_enter Try.func230,Try.ntmps230
   go_wp2
   go_region
   all_goals go_wp2
   all_goals
    refine bodyPost_ret (v:=.tuple #[.agg #[.int .i64 2,.int .i64 0],.bool true]) (by simp [results,Try.results230,go_sem] <;> go_simp) rfl ?_
    exact ⟨rfl,by exact Rd.byB⟩
  ·have q5:(t.kind==5)=false:=by simpa using h5
   have hb:Hid (loadB l a 2=false):=by show _=_;unfold loadB;rw [if_pos rfl];unfold kd;rw [ht.out];simp [h5]
   rw [hv.out,hb.out];clear hr hcs h5 hp
   go_enter Try.func230,Try.ntmps230
   go_wp2
   go_region
   all_goals go_wp2
   all_goals
    refine bodyPost_ret (v:=.tuple #[.agg #[.int .i64 2,.int .i64 0],.bool false]) (by simp [results,Try.results230,go_sem] <;> go_simp) rfl ?_
    exact ⟨rfl,by exact Rd.byB⟩
 ·have n2:(k==2)=false:=by simpa using q2
  have hv:Hid (loadV l a k=t):=by show _=_;unfold loadV;rw [if_neg q2,ht.out]
  by_cases q3:k=3
  ·subst q3
   by_cases h3:t.kind=3
   ·have hb:Hid (loadB l a 3=true):=by show _=_;unfold loadB;rw [if_neg (by decide),if_pos rfl];unfold kd;rw [ht.out,h3];rfl
    rw [hv.out,hb.out];obtain ⟨tk,tc⟩:=t;simp only at h3;subst h3;clear hr hcs hp
    go_enter Try.func230,Try.ntmps230
    go_wp2
    go_region
    all_goals go_wp2
    all_goals
     refine bodyPost_ret (v:=.tuple #[.agg #[.int .i64 3,.int .i64 tc],.bool true]) (by simp [results,Try.results230,go_sem] <;> go_simp) rfl ?_
     exact ⟨rfl,by exact Rd.byB⟩
   ·have q3:(t.kind==3)=false:=by simpa using h3
    by_cases h7:t.kind=7
    ·have hb:Hid (loadB l a 3=true):=by show _=_;unfold loadB;rw [if_neg (by decide),if_pos rfl];unfold kd;rw [ht.out,h7];rfl
     rw [hv.out,hb.out];obtain ⟨tk,tc⟩:=t;simp only at h7;subst h7;clear hr hcs hp q3 h3
     go_enter Try.func230,Try.ntmps230
     go_wp2
     go_region
     all_goals go_wp2
     all_goals
      refine bodyPost_ret (v:=.tuple #[.agg #[.int .i64 7,.int .i64 tc],.bool true]) (by simp [results,Try.results230,go_sem] <;> go_simp) rfl ?_
      exact ⟨rfl,by exact Rd.byB⟩
    ·have q7:(t.kind==7)=false:=by simpa using h7
     have hb:Hid (loadB l a 3=false):=by show _=_;unfold loadB;rw [if_neg (by decide),if_pos rfl];unfold kd;rw [ht.out];simp [h3,h7]
     rw [hv.out,hb.out];clear hr hcs hp h3 h7
     go_enter Try.func230,Try.ntmps230
     go_wp2
     go_region
     all_goals go_wp2
     all_goals
      refine bodyPost_ret (v:=.tuple #[.agg #[.int .i64 t.kind,.int .i64 t.cls],.bool false]) (by simp [results,Try.results230,go_sem] <;> go_simp) rfl ?_
      exact ⟨rfl,by exact Rd.byB⟩
  ·have n3:(k==3)=false:=by simpa using q3
   have hb:Hid (loadB l a k=(t.kind==k)):=by show _=_;unfold loadB;rw [if_neg q2,if_neg q3];unfold kd;rw [ht.out];rfl
   rw [hv.out,hb.out];clear hr hcs hp
   go_enter Try.func230,Try.ntmps230
   go_wp2
   go_region
   all_goals go_wp2
   all_goals
    refine bodyPost_ret (v:=.tuple #[.agg #[.int .i64 t.kind,.int .i64 t.cls],.bool (t.kind==k)]) (by simp [results,Try.results230,go_sem] <;> go_simp) rfl ?_
    exact ⟨rfl,by exact Rd.byB⟩
end
end Sck
end Go.Proofs.Ytncmhenfgbcihab
