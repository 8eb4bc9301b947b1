/- Parts of the proof: Kj. -/
import Derived.Test.YtncmhenfgbcihabG17
import Derived.Test.YtncmhenfgbcihabG18
set_option linter.unusedSimpArgs false
set_option linter.unusedVariables false
set_option maxHeartbeats 8000000
namespace Go.Proofs.Ytncmhenfgbcihab
open Go.RowKit
namespace Rck
open Num Rd D Mem Hpw Flow HierW FormW Sck
section
variable {E:FE}{w w':World}{vw:Value}{R:Flow.Run}{v:Value}{s:State}
def MN (E:FE) (B0 mb:Nat) (w:World):Option State→Prop
 | some t=>∃ vs,Blk w mb [.pointer (some ⟨E.cb,0,none⟩),vs,.slice none 0 0,.bool false]∧TR w B0 vs t.slots
 | none=>∃ x y u,Blk w mb [x,y,.slice none 0 0,u]
theorem MN.ex {B0 mb:Nat}{o:Option State}(h:MN E B0 mb w o):∃ x y u,Blk w mb [x,y,.slice none 0 0,u]:=by
 cases o with
 | none=>exact h
 | some t=>obtain ⟨vs,B,_⟩:=h;exact ⟨_,_,_,B⟩
theorem MN.below {B0 mb:Nat}{o:Option State}(h:MN E B0 mb w o) (hb:Below w.heap.size w w'):MN E B0 mb w' o:=by
 have K:=Kp.of_below (X:=fun _=>False) hb (Nat.le_refl _)
 cases o with
 | none=>obtain ⟨x,y,u,B⟩:=h;exact ⟨x,y,u,B.next K (fun e=>e)⟩
 | some t=>obtain ⟨vs,B,T⟩:=h;exact ⟨vs,B.next K (fun e=>e),T.below hb⟩
theorem MN.of {B0 mb:Nat}{vs vk:Value}{t:State}(M:MS E w B0 mb vs vk t):MN E B0 mb (w.setCell ⟨mb,2,none⟩ (.slice none 0 0)) (some t):=by
 have K:Kp (fun k=>k=mb) w (w.setCell ⟨mb,2,none⟩ (.slice none 0 0)):=Kp.setCell (Kp.refl (fun k=>k=mb) w) (p:=⟨mb,2,none⟩) (.inl rfl) _;refine ⟨vs,?_,M.slots.keep K (fun g hg e=>M.n1 (by rw [hg,e]))⟩
 have:=M.blk.set 2 (by simp) (.slice none 0 0)
 simpa using this
theorem MN.of0 {B0 mb:Nat}(h:∃ x y z u,Blk w mb [x,y,z,u]):MN E B0 mb (w.setCell ⟨mb,2,none⟩ (.slice none 0 0)) none:=by
 obtain ⟨x,y,z,u,B⟩:=h;refine ⟨x,y,u,?_⟩
 have:=B.set 2 (by simp) (.slice none 0 0)
 simpa using this
def pairs2 (f:Fi) (m:Me) (i:Ins) (og:Option State) (nx:List Nat):List (Nat × State):=nx.map fun k=>(k,Ckr.nstate f m i og k)
theorem pairs2_take {f:Fi}{m:Me}{i:Ins}{og:Option State}{nx:List Nat}{n:Nat}(h:n < nx.length):pairs2 f m i og (nx.take (n+1))=pairs2 f m i og (nx.take n)++[(nx.getD n 0,Ckr.nstate f m i og (nx.getD n 0))]:=by
 unfold pairs2;rw [List.take_succ_eq_append_getElem h,List.map_append,List.getD_eq_getElem?_getD,List.getElem?_eq_getElem h];rfl
theorem leads_snoc {c:List Cls}{R:Flow.Run}{l:List (Nat × State)}{p:Nat × State}:leads c R (l++[p])=Flow.lead c (leads c R l) p.1 p.2:=by unfold leads;rw [List.foldl_append];rfl
theorem leads_app {c:List Cls}{R:Flow.Run}{l m:List (Nat × State)}:leads c R (l++m)=leads c (leads c R l) m:=by unfold leads;rw [List.foldl_append]
theorem all_take {l:List Nat}{f:Nat→Bool}{n:Nat}(h:n < l.length):(l.take (n+1)).all f=((l.take n).all f && f (l.getD n 0)):=by
 rw [List.take_succ_eq_append_getElem h,List.all_append,List.getD_eq_getElem?_getD,List.getElem?_eq_getElem h];simp
theorem pg_eq {od og:Option State}{nx:List Nat}{f:Nat→Bool}{K:State→State}(h:og=od.bind fun s'=>if nx.all f=true then some (K s') else none):(od.isSome && nx.all f)=og.isSome:=by
 subst h
 cases od with
 | none=>rfl
 | some s'=>cases hh:nx.all f <;> simp [hh]
theorem below_setCell2 {B:Nat}{w w':World}(h:Below B w w') (p:Addr) (u:Value):Below B (w.setCell p u) (w'.setCell p u) :=
 ⟨h.os,h.tape,h.output,by simpa [World.setCell] using h.size,fun k hk=>by simp [World.setCell,Array.getElem?_modify,h.block k hk]⟩
theorem runOk_bad {n nl ns len:Nat}{R:Flow.Run}{b:Bool}(h:RunOk n nl ns len R):RunOk n nl ns len ⟨R.states,R.work,b⟩:=⟨h.1,h.2.1,h.2.2⟩
theorem work_le (nl ns:Nat) (R:Flow.Run):R.work.length≤meas nl ns R:=by unfold meas;omega
def hls (m:Me) (s:State) (ok:Bool) (a n:Nat):List (Nat × State):=((m.handlers.take n).filter fun h=>Chk.covers h a).map fun h=>(h.go.toNat,Ckr.hstate m s ok h)
theorem hls_yes {m:Me}{s:State}{ok:Bool}{a n:Nat}(h:n < m.handlers.length) (hc:Chk.covers m.handlers[n] a=true):hls m s ok a (n+1)=hls m s ok a n++[((m.handlers[n]).go.toNat,Ckr.hstate m s ok m.handlers[n])]:=by
 unfold hls;rw [List.take_succ_eq_append_getElem h,List.filter_append,List.map_append];simp [hc]
theorem hls_no {m:Me}{s:State}{ok:Bool}{a n:Nat}(h:n < m.handlers.length) (hc:Chk.covers m.handlers[n] a=false):hls m s ok a (n+1)=hls m s ok a n:=by
 unfold hls;rw [List.take_succ_eq_append_getElem h,List.filter_append,List.map_append];simp [hc]
theorem hls_all (m:Me) (s:State) (ok:Bool) (a:Nat):hls m s ok a m.handlers.length=(m.handlers.filter fun h=>Chk.covers h a).map fun h=>(h.go.toNat,Ckr.hstate m s ok h):=by
 unfold hls;rw [List.take_of_length_le (Nat.le_refl _)]
theorem hls_sub {m:Me}{s:State}{ok:Bool}{a n:Nat}:∀ p∈hls m s ok a n,p∈(m.handlers.filter fun h=>Chk.covers h a).map fun h=>(h.go.toNat,Ckr.hstate m s ok h):=by
 intro p hp
 unfold hls at hp;obtain ⟨h,hh,rfl⟩:=List.mem_map.1 hp;obtain ⟨h1,h2⟩:=List.mem_filter.1 hh;exact List.mem_map.2 ⟨h,List.mem_filter.2 ⟨List.take_subset _ _ h1,h2⟩,rfl⟩
theorem op_cell {w:World}{B:Nat}{da:Option Addr}{dcap:Nat}{m:Me}(h:Sl 6 EIns w B (.slice da m.code.length dcap) m.code){k:Nat}(hk:k < m.code.length):∃ db dof,da=some ⟨db,dof,none⟩∧db < B∧m.code.length≤dcap∧dcap≤9223372036854775807∧w.cell? ⟨db,dof+k*6,none⟩=some (.int .i64 (Chk.insAt m k).op):=by
 obtain ⟨a,cap,e,h1,h2,hel⟩:=h;simp only [Value.slice.injEq] at e;obtain ⟨rfl,_,rfl⟩:=e;obtain ⟨db,dof,e2,hb,c0,_⟩:=hel k hk;have eI:Chk.insAt m k=m.code[k]:=by unfold Chk.insAt;rw [List.getD_eq_getElem?_getD,List.getElem?_eq_getElem hk];rfl
 exact ⟨db,dof,e2,hb,h1,h2,by rw [eI];exact c0⟩
theorem ret_cell {w:World}{B:Nat}{ma:Option Addr}{mcap:Nat}{f:Fi}(h:Sl 8 EMe w B (.slice ma f.methods.length mcap) f.methods){k:Nat}(hk:k < f.methods.length):∃ db dof,ma=some ⟨db,dof,none⟩∧db < B∧f.methods.length≤mcap∧mcap≤9223372036854775807∧w.cell? ⟨db,dof+k*8+1,none⟩=some (.int .i64 (Run.meAt f k).ret.kind)∧w.cell? ⟨db,dof+k*8+2,none⟩=some (.int .i64 (Run.meAt f k).ret.cls)∧TOk (Run.meAt f k).ret:=by
 obtain ⟨a,cap,e,h1,h2,hel⟩:=h;simp only [Value.slice.injEq] at e;obtain ⟨rfl,_,rfl⟩:=e;obtain ⟨db,dof,e2,hb,vp,vc,vh,g0,g1,g2,g3,g4,g5,g6,g7,oks,s1,s2,s3⟩:=hel k hk;have eI:Run.meAt f k=f.methods[k]:=by unfold Run.meAt;rw [List.getD_eq_getElem?_getD,List.getElem?_eq_getElem hk];rfl
 exact ⟨db,dof,e2,hb,h1,h2,by rw [eI];exact g1,by rw [eI];exact g2,by rw [eI];exact ⟨oks.1,oks.2.1⟩⟩
theorem ts_one {w:World}{X:Nat→Prop}{b:Nat}{t:Ty}(hX:¬ X b) (h0:w.cell? ⟨b,0,none⟩=some (.int .i64 t.kind)) (h1:w.cell? ⟨b,1,none⟩=some (.int .i64 t.cls)) (ht:TOk t):TS w X (.slice (some ⟨b,0,none⟩) 1 1) [t]:=by
 refine ⟨⟨_,1,rfl,Nat.le_refl _,by omega,fun i hi2=>?_⟩,fun x hx=>?_⟩
 ·simp at hi2;subst hi2;exact ⟨_,_,rfl,hX,h0,h1⟩
 ·simp at hx;subst hx;exact ht
set_option maxRecDepth 100000 in
theorem oneA (F:Fw E w vw R) (S:Run.FiR E.f) (hmem:E.m∈E.f.methods) (hR:RunOk E.f.classes.length E.m.regs.toNat 1 E.m.code.length R) (hv:VSt w (zone E vw) v s) (os:StOk E.f.classes.length E.m.regs.toNat 1 s) (a:Nat) (ha:a < E.m.code.length) (hme:meas E.m.regs.toNat 1 R≤10000000) (hbr:s.broken=false) :
  Calls Try.prog 113 #[.pointer (some ⟨E.cb,0,none⟩),.int .i64 a,v] w (LeadR E vw w (leads E.f.classes ⟨R.states,R.work,R.bad || !(Ckr.one E.f E.m a s).1⟩ (Ckr.one E.f E.m a s).2)):=by
 have MM:=S.mes E.m hmem;have hm:=S.may;have hcl:=MM.code;have hlc:=MM.regs;have hn1000:Hid (E.m.regs.toNat≤1000):=Lib.hid (by omega)
 have hI:=Chk.insAt_mem ha;have hi:=Ckr.sd_of S MM (MM.ins _ hI.1);have HV:=Lib.hid hv;have HF:=Lib.hid F;have HR:=Lib.hid hR;have OS:=Lib.hid os;have HME:=Lib.hid hme;obtain ⟨x,y,rfl,t1,t2⟩:=hv;obtain ⟨c1,n1,rfl,_⟩:=t1.len;obtain ⟨c2,n2,rfl,_⟩:=t2.len;have S1:=Lib.hid t1;clear t1 t2;have zl:=zlt F;have hck:=F.ck;have k9:=(hck 9 (by simp [ccells,meV])).1
 have k10:=(hck 10 (by simp [ccells,meV])).1
 have k2:=(hck 2 (by simp [ccells,meV])).1
 have k0:=(hck 0 (by simp [ccells,meV])).1
 have k11:=(hck 11 (by simp [ccells,meV])).1
 have z11:=(hck 11 (by simp [ccells,meV])).2
 simp [ccells,meV] at k9 k10 k2 k0 k11;have lcb:=cell_lt k9;have lcb1:E.cb < w.heap.size+1:=by omega
 have lcb2:E.cb < w.heap.size+1+1:=by omega
 obtain ⟨da,dcap,evd,q1,q2,hel⟩:=F.code;obtain ⟨db,dof,rfl,hdb,i0,i1,i2,i3,i4,oki,va,i5,hva⟩:=hel a ha;have HVA:=Lib.hid hva;obtain ⟨aa,acap,rfl,_⟩:=hva;have eI:Chk.insAt E.m a=E.m.code[a]:=by unfold Chk.insAt;rw [List.getD_eq_getElem?_getD,List.getElem?_eq_getElem ha];rfl
 rw [← eI] at i0 i1 i2 i3 i4 i5 oki HVA;rw [evd] at k9;obtain ⟨ha0,hacap,evh,hq1,hq2,heh⟩:=F.hands;rw [evh] at k10;obtain ⟨mea,mecap,evm,_⟩:=F.mes;rw [evm] at k2;have hbase:=F.base;have ldb:db < w.heap.size:=by omega
 have ldb1:db < w.heap.size+1:=by omega
 have ha2:(a:Int) < E.m.code.length:=by omega
 obtain ⟨ins,hins⟩:∃ ins,Hid (Chk.insAt E.m a=ins):=⟨_,Lib.hid rfl⟩;obtain ⟨nx,hnx⟩:∃ nx,Hid (Ckr.nexts ins a=nx):=⟨_,Lib.hid rfl⟩;obtain ⟨og,hog⟩:∃ og,Hid (Ckr.goes E.f E.m a s=og):=⟨_,Lib.hid rfl⟩;have G:=Chk.gd_of os hbr;obtain ⟨od,hod⟩:∃ od,Hid (Ckr.does E.f E.m ins s=od):=⟨_,Lib.hid rfl⟩
 have hgo:Hid (og=od.bind fun s'=>if nx.all (fun k=>decide (k < E.m.code.length))=true then some ⟨s'.slots,[],false⟩ else none):=by
  show _=_
  rw [← hog.out,← hod.out,← hnx.out];unfold Ckr.goes;rw [if_neg (by rw [hbr];simp),hins.out]
 have hnl:Hid (∀ g,og=some g→∀ k∈nx,k < E.m.code.length):=fun g e k hk=>by
  have e2:=hog.out.trans e;exact (Ckr.goes_some e2).2.2 k (by rw [hins.out,hnx.out];exact hk)
 rw [hins.out] at i0 i1 i2 i3 i4 i5 oki hi HVA
 have hone:Hid (Ckr.one E.f E.m a s=(og.isSome,pairs2 E.f E.m ins og nx++(E.m.handlers.filter fun h=>Chk.covers h a).map fun h=>(h.go.toNat,Ckr.hstate E.m s og.isSome h))):=by
  show _=_
  unfold Ckr.one;rw [hog.out,hins.out,hnx.out];rfl
 have hno:∀ p∈(Ckr.one E.f E.m a s).2,StOk E.f.classes.length E.m.regs.toNat 1 p.2:=Ckr.one_ok S hmem a s os;rw [hone.out] at hno ⊢;replace hno:=Lib.hid hno;simp only
 generalize hres:leads E.f.classes ⟨R.states,R.work,R.bad || !og.isSome⟩ (pairs2 E.f E.m ins og nx++(E.m.handlers.filter fun h=>Chk.covers h a).map fun h=>(h.go.toNat,Ckr.hstate E.m s og.isSome h))=RES
 replace hres:=Lib.hid hres;obtain ⟨op,ia,ib,ic,in_,iargs⟩:=ins;simp only at i0 i1 i2 i3 i4 i5 oki HVA;have hjmp:=hi.jmp;simp only at hjmp;have hopr:=hi.op;simp only at hopr;clear hck hel heh F hR os hme;replace hbr:=Lib.hid hbr
 go_enter Try.func113,Try.ntmps113
 go_wp2_with fail
 have hw1:Below w.heap.size w ((w.alloc (.cells #[.slice c1 s.slots.length n1,.slice c2 s.stack.length n2,.bool s.broken] 157)).alloc (.cells #[.int .i64 op,.int .i64 ia,.int .i64 ib,.int .i64 ic,.int .i64 in_,.slice aa iargs.length acap] 63)):=Rd.byB;have HL:=Lib.hid (stok_len OS.out (by omega) (by omega))
 refine (clone (HV.out.below (X':=fun _=>False) (by exact Rd.byB) (fun _ _ e=>e.elim)) HL.out.1 HL.out.2).mono ?_
 rintro e w2 ⟨vs,vk,rfl,R1,R2,N12,hb2⟩;obtain ⟨g1,d1,rfl⟩:=R1.any;obtain ⟨g2,d2,rfl⟩:=R2.any;replace R1:=Lib.hid R1;replace R2:=Lib.hid R2;replace N12:=Lib.hid N12
 go_upto_region 4 with (fail)
 obtain ⟨W3,hW3⟩:∃ W3,W3=w2.alloc (.cells #[.pointer (some ⟨E.cb,0,none⟩),.slice g1 s.slots.length d1,.slice g2 s.stack.length d2,.bool s.broken] 260):=⟨_,rfl⟩;obtain ⟨mb,hmb⟩:∃ mb,mb=w2.heap.size:=⟨_,rfl⟩;have hs2:=hb2.size;simp at hs2;have hal:Below w2.heap.size w2 W3:=by rw [hW3];exact Rd.byB
 have hb2w:Below w.heap.size w w2:=hw1.trans (hb2.mono (by simp <;> omega))
 have hb3w:Below w.heap.size w W3:=hb2w.trans (hal.mono (by omega))
 have hbx:∀ k (x:Value),((w.alloc (.cells #[.slice c1 s.slots.length n1,.slice c2 s.stack.length n2,.bool s.broken] 157)).alloc (.cells #[.int .i64 op,.int .i64 ia,.int .i64 ib,.int .i64 ic,.int .i64 in_,.slice aa iargs.length acap] 63)).cell? ⟨w.heap.size+1,k,none⟩=some x→W3.cell? ⟨w.heap.size+1,k,none⟩=some x:=fun k x h=>kept hal (by omega) (kept hb2 (by simp) h)
 have x0:=hbx 0 (.int .i64 op) (by go_simp)
 have x1:=hbx 1 (.int .i64 ia) (by go_simp)
 have x2:=hbx 2 (.int .i64 ib) (by go_simp)
 have x3:=hbx 3 (.int .i64 ic) (by go_simp)
 have x4:=hbx 4 (.int .i64 in_) (by go_simp)
 have x5:=hbx 5 (.slice aa iargs.length acap) (by go_simp)
 have u2:W3.cell? ⟨w.heap.size,2,none⟩=some (.bool s.broken):=kept hal (by omega) (kept hb2 (by simp <;> omega) (by go_simp))
 have R1L:∀ g,(Value.slice g1 s.slots.length d1).ownBlock=some g→w.heap.size+2≤g∧g < mb:=fun g hg=>by have:=R1.out.lt hg;simp at this;omega
 have R2L:∀ g,(Value.slice g2 s.stack.length d2).ownBlock=some g→w.heap.size+2≤g∧g < mb:=fun g hg=>by have:=R2.out.lt hg;simp at this;omega
 have F3:=HF.out.below hb3w;have hmbw:w.heap.size+2≤mb:=by omega
 have M3:MS E W3 w.heap.size mb (.slice g1 s.slots.length d1) (.slice g2 s.stack.length d2) s:=by
  refine ⟨?_,(R1.out.below hal).low (by simp <;> omega),(R2.out.below hal).low (by simp <;> omega),by omega,fun e=>by have:=(R1L _ e).2;omega,fun e=>by have:=(R2L _ e).2;omega,N12.out,hbr.out,⟨_,F3.ck⟩,F3.cls.mono mCls (Below.refl _ _) hbase,F3.mes.mono mMe (Below.refl _ _) hbase,lcb,hm⟩
  rw [hmb,hW3,hbr.out];exact Blk.made w2 [.pointer (some ⟨E.cb,0,none⟩),.slice g1 s.slots.length d1,.slice g2 s.stack.length d2,.bool false] _
 rw [← hW3,← hmb]
 have nbx:¬ mo mb (.slice g1 s.slots.length d1) (.slice g2 s.stack.length d2) (w.heap.size+1):=fun hk=>by
  rcases hk with e | e | e
  ·omega
  ·have:=(R1L _ e).1;omega
  ·have:=(R2L _ e).1;omega
 replace M3:=Lib.hid M3;replace nbx:=Lib.hid nbx;clear hW3 hbx hal hb2 R1 R2 N12 R1L R2L F3 hb2w hw1 hmb i0 i1 i2 i3 i4 i5;have hbr':=hbr.out
 go_wp2_with fail
 refine (try_ M3.out S MM hi G oki.2.2.1 aa iargs.length acap (HVA.out.mono mInt (hb3w.mono hbase) hbase)).mono ?_;rw [hod.out];rintro e w4 ⟨rfl,K4,A4⟩;clear hbr';have hb4w:Below w.heap.size w w4:=hb3w.trans (M3.out.kb K4)
 have MX4:∃ x y z u,Blk w4 mb [x,y,z,u]:=by
  cases od with
  | none=>exact A4
  | some s'=>exact A4.ex
 have MN4:Hid (MN E w.heap.size mb (w4.setCell ⟨mb,2,none⟩ (.slice none 0 0)) od):=by
  show MN _ _ _ _ _
  cases od with
  | none=>exact MN.of0 A4
  | some s'=>exact MN.of A4
 replace x0:=K4.cell x0 nbx.out;replace x1:=K4.cell x1 nbx.out;replace x2:=K4.cell x2 nbx.out;replace x3:=K4.cell x3 nbx.out;replace x4:=K4.cell x4 nbx.out;replace x5:=K4.cell x5 nbx.out;clear K4 A4 M3 nbx u2;obtain ⟨p0,hp0⟩:∃ p,Hid (od.isSome=p):=⟨_,Lib.hid rfl⟩;rw [hp0.out];obtain ⟨mx,my,mz,mu,mB⟩:=MX4;have m0:=(mB 0 (by simp)).1
 have m2:=(mB 2 (by simp)).1
 have e2:=(mB 2 (by simp)).2
 simp only [List.getElem_cons_zero,List.getElem_cons_succ] at m0 m2;have lmb4:=cell_lt m0;clear mB
 go_upto_region 6 with (fail)
 obtain ⟨W5,hW5⟩:∃ W5,W5=w4.setCell ⟨mb,2,none⟩ (.slice none 0 0):=⟨_,rfl⟩;have nim:¬ w.heap.size+1=mb:=by omega
 have nmi:¬ mb=w.heap.size+1:=by omega
 replace x0:W5.cell? ⟨w.heap.size+1,0,none⟩=some (.int .i64 op):=by rw [hW5];go_simp
 replace x1:W5.cell? ⟨w.heap.size+1,1,none⟩=some (.int .i64 ia):=by rw [hW5];go_simp
 replace x2:W5.cell? ⟨w.heap.size+1,2,none⟩=some (.int .i64 ib):=by rw [hW5];go_simp
 replace x3:W5.cell? ⟨w.heap.size+1,3,none⟩=some (.int .i64 ic):=by rw [hW5];go_simp
 replace x4:W5.cell? ⟨w.heap.size+1,4,none⟩=some (.int .i64 in_):=by rw [hW5];go_simp
 replace x5:W5.cell? ⟨w.heap.size+1,5,none⟩=some (.slice aa iargs.length acap):=by rw [hW5];go_simp
 have hb5w':Below w.heap.size w W5:=by rw [hW5];exact hb4w.setCell (p:=⟨mb,2,none⟩) (by show w.heap.size≤mb;omega) _
 rw [← hW5] at MN4 ⊢;clear hW5 m0 m2 e2 lmb4 hb4w hb3w;have hszw4:=hb5w'.size;have j9:=kept hb5w' lcb k9;have j10:=kept hb5w' lcb k10;have j2:=kept hb5w' lcb k2;have j0:=kept hb5w' lcb k0;have j11:=kept hb5w' lcb k11;have y11:=keptf hb5w' lcb z11;clear k9 k10 k2 k0 k11 z11;have lw4:=cell_lt x0;have lcb4:=cell_lt j9;replace lcb:=Lib.hid lcb;clear lcb1 lcb2
 go_wp2_with (go_at_call 167;refine (nexts op ia ib ic in_ iargs aa iargs.length acap a (by omega) (fun h=>(hjmp h).1)).mono ?_;rintro e w5 ⟨v1,rfl,N1,hb5⟩;rw [hnx.out] at N1;obtain ⟨na,ncap,rfl,nq1,nq2,hn1⟩:=N1;replace hn1:=Lib.hid hn1)
 have hb5w:Below w.heap.size w w5:=hb5w'.trans (hb5.mono hszw4);have hszw5:=hb5w.size;have hs5:=hb5.size;replace j9:=kept hb5 lcb4 j9;replace j10:=kept hb5 lcb4 j10;replace j2:=kept hb5 lcb4 j2;replace j0:=kept hb5 lcb4 j0;replace j11:=kept hb5 lcb4 j11;replace y11:=keptf hb5 lcb4 y11;replace x0:=kept hb5 lw4 x0;replace x1:=kept hb5 lw4 x1;replace x2:=kept hb5 lw4 x2;replace x3:=kept hb5 lw4 x3;replace x4:=kept hb5 lw4 x4;replace x5:=kept hb5 lw4 x5;replace MN4:=Lib.hid (MN4.out.below hb5)
 go_loopw [9,49] (fun b c wr=>∃ (n:Nat) (p:Bool),c=.int .i64 n∧b=.bool p∧n≤nx.length∧wr=w5∧Hid (p=(p0 && (nx.take n).all fun k=>decide (k < E.m.code.length)))) (fun _ c _=>nx.length - (intOf c).toNat)
 case atStart=>exact ⟨0,p0,rfl,rfl,Nat.zero_le _,rfl,Lib.hid (by simp)⟩
 case round =>
  obtain ⟨n,p,rfl,rfl,hn,rfl,hp⟩:=hrel
  by_cases hlt:n < nx.length
  ·obtain ⟨nb,rfl,hnb,ce⟩:=hn1.out n hlt;obtain ⟨k,hk⟩:∃ k,Hid (nx.getD n 0=k):=⟨_,Lib.hid rfl⟩;rw [hk.out] at ce;have i9:(n:Int) < nx.length:=by omega
   cases p
   ·go_wp2
    refine ⟨⟨n+1,false,by simp,by first | rfl | trivial,hlt,by first | rfl | trivial,Lib.hid ?_⟩,by simp only [intOf];omega⟩
    rw [all_take hlt,← Bool.and_assoc,← hp.out];rfl
   ·by_cases hkl:k < E.m.code.length
    ·have i8:(k:Int) < E.m.code.length:=by omega
     go_wp2
     refine ⟨⟨n+1,true,by simp,by first | rfl | trivial,hlt,by first | rfl | trivial,Lib.hid ?_⟩,by simp only [intOf];omega⟩
     rw [all_take hlt,← Bool.and_assoc,← hp.out,hk.out];simp [hkl]
    ·have i8:¬ (k:Int) < E.m.code.length:=by omega
     go_wp2
     refine ⟨⟨n+1,false,by simp,by first | rfl | trivial,hlt,by first | rfl | trivial,Lib.hid ?_⟩,by simp only [intOf];omega⟩
     rw [all_take hlt,← Bool.and_assoc,← hp.out,hk.out];simp [hkl]
  ·obtain rfl:n=nx.length:=by omega
   have hpg:p=og.isSome:=by rw [hp.out,List.take_of_length_le (Nat.le_refl _),← hp0.out];exact pg_eq hgo.out
   subst hpg
   have hod2:Hid (∀ g,og=some g→∃ t,od=some t∧g=⟨t.slots,[],false⟩):=fun g e=>by
    have h:=hgo.out;rw [e] at h
    cases od with
    | none=>simp at h
    | some s' =>
     simp only [Option.bind_some] at h
     split at h
     ·injection h with h;exact ⟨s',rfl,h⟩
     ·cases h
   clear hp hgo hod hp0 hn1 hlt hn;obtain ⟨mx,my,mu,mB⟩:=MN4.out.ex;have m0:=(mB 0 (by simp)).1
   have m1:=(mB 1 (by simp)).1
   have m2:=(mB 2 (by simp)).1
   have m3:=(mB 3 (by simp)).1
   have e1:=(mB 1 (by simp)).2
   have e2:=(mB 2 (by simp)).2
   have e3:=(mB 3 (by simp)).2
   simp only [List.getElem_cons_zero,List.getElem_cons_succ] at m0 m1 m2 m3;clear mB;have ncm:¬ E.cb=mb:=by have:=lcb.out;omega
   have nmc:¬ mb=E.cb:=by have:=lcb.out;omega
   have nic:¬ w.heap.size+1=E.cb:=by have:=lcb.out;omega
   have nci:¬ E.cb=w.heap.size+1:=by have:=lcb.out;omega
   cases og with
   | none =>
    as_aux_lemma =>
     simp only [Option.isSome_none,Bool.not_false,Bool.or_true] at hres hno hone ⊢
     go_upto_region 14 with (fail)
     obtain ⟨W7,hW7⟩:∃ W7,W7=(((wr.setCell ⟨E.cb,11,none⟩ (.bool true)).setCell ⟨mb,1,none⟩ (.slice none 0 0)).setCell ⟨mb,2,none⟩ (.slice none 0 0)).setCell ⟨mb,3,none⟩ (.bool true):=⟨_,rfl⟩;have FB:=HF.out.bad true
     have hbz:Below w.heap.size (w.setCell ⟨E.cb,11,none⟩ (.bool true)) W7:=by
      rw [hW7];exact (((below_setCell2 hb5w ⟨E.cb,11,none⟩ (.bool true)).setCell (p:=⟨mb,1,none⟩) (by show w.heap.size≤mb;omega) _).setCell (p:=⟨mb,2,none⟩) (by show w.heap.size≤mb;omega) _).setCell (p:=⟨mb,3,none⟩) (by show w.heap.size≤mb;omega) _
     have hbz':Below (w.setCell ⟨E.cb,11,none⟩ (.bool true)).heap.size (w.setCell ⟨E.cb,11,none⟩ (.bool true)) W7:=by simpa [World.setCell] using hbz
     have F7:=Lib.hid (FB.1.below hbz');have K7:=Lib.hid (kpb FB.2 hbz');replace m1:W7.cell? ⟨mb,1,none⟩=some (.slice none 0 0):=by rw [hW7];go_simp
     replace m2:W7.cell? ⟨mb,2,none⟩=some (.slice none 0 0):=by rw [hW7];go_simp
     replace m3:W7.cell? ⟨mb,3,none⟩=some (.bool true):=by rw [hW7];go_simp
     replace x0:W7.cell? ⟨w.heap.size+1,0,none⟩=some (.int .i64 op):=by rw [hW7];go_simp
     replace x1:W7.cell? ⟨w.heap.size+1,1,none⟩=some (.int .i64 ia):=by rw [hW7];go_simp
     replace x2:W7.cell? ⟨w.heap.size+1,2,none⟩=some (.int .i64 ib):=by rw [hW7];go_simp
     replace x3:W7.cell? ⟨w.heap.size+1,3,none⟩=some (.int .i64 ic):=by rw [hW7];go_simp
     replace x4:W7.cell? ⟨w.heap.size+1,4,none⟩=some (.int .i64 in_):=by rw [hW7];go_simp
     replace x5:W7.cell? ⟨w.heap.size+1,5,none⟩=some (.slice aa iargs.length acap):=by rw [hW7];go_simp
     have hszw7:w.heap.size≤W7.heap.size:=K7.out.size;rw [← hW7];clear hW7 hbz hbz' FB m0 e1 e2 e3 j9 j10 j2 j0 j11 y11 MN4 hb5 hb5w hb5w' hszw5 hs5;have HR7:=Lib.hid (runOk_bad (b:=true) HR.out);have hsg:Hid (∀ k∈nx,StOk E.f.classes.length E.m.regs.toNat 1 (Ckr.nstate E.f E.m ⟨op,ia,ib,ic,in_,iargs⟩ none k)):=fun k hk=>hno.out (k,Ckr.nstate E.f E.m ⟨op,ia,ib,ic,in_,iargs⟩ none k) (List.mem_append.2 (.inl (List.mem_map.2 ⟨k,hk,rfl⟩)));have lw7:=cell_lt x0;have lm7:=cell_lt m1
     go_wp2_with (go_at_call 167;refine (nexts op ia ib ic in_ iargs aa iargs.length acap a (by omega) (fun h=>(hjmp h).1)).mono ?_;rintro e w8 ⟨v2,rfl,N2,hb8⟩;rw [hnx.out] at N2;obtain ⟨nb,ncap2,rfl,nq3,nq4,hn2⟩:=N2;replace hn2:=Lib.hid hn2)
     have F8:=Lib.hid (F7.out.below hb8);have hs8:=hb8.size;replace m1:=kept hb8 lm7 m1;replace m2:=kept hb8 lm7 m2;replace m3:=kept hb8 lm7 m3;replace x0:=kept hb8 lw7 x0;replace x1:=kept hb8 lw7 x1;have K8:=Lib.hid (kpb K7.out hb8);have zmb:¬ zone E vw mb:=fun h=>by have:=zl mb h;omega
     have zib:¬ zone E vw (w.heap.size+1):=fun h=>by have:=zl _ h;omega
     clear F7 K7 x2 x3 x4 x5
     go_loopw [78] (fun c wr=>∃ (n:Nat) (vw1:Value),c=.int .i64 n∧n≤nx.length∧Hid (Fw E wr vw1 (leads E.f.classes ⟨R.states,R.work,true⟩ (pairs2 E.f E.m ⟨op,ia,ib,ic,in_,iargs⟩ none (nx.take n))))∧Hid (Kp (zone E vw) w8 wr)∧Hid (∀ k,zone E vw1 k→zone E vw k∨w8.heap.size≤k)) (fun c _=>nx.length - (intOf c).toNat)
     case atStart=>exact ⟨0,vw,rfl,Nat.zero_le _,F8,Lib.hid (Kp.refl _ _),Lib.hid (fun k h=>.inl h)⟩
     case round =>
      obtain ⟨n,vw1,rfl,hn,FN,KN,ZN⟩:=hrel
      by_cases hlt:n < nx.length
      ·obtain ⟨nbb,rfl,hnb,ce⟩:=hn2.out n hlt;obtain ⟨k,hk⟩:∃ k,Hid (nx.getD n 0=k):=⟨_,Lib.hid rfl⟩;have hmk:k∈nx:=by rw [← hk.out,List.getD_eq_getElem?_getD,List.getElem?_eq_getElem hlt];exact List.getElem_mem hlt
       rw [hk.out] at ce;have i9:(n:Int) < nx.length:=by omega
       have znb:¬ zone E vw nbb:=fun h=>by have:=zl nbb h;omega
       replace ce:=KN.out.cell ce znb;have r1:=KN.out.cell m1 zmb;have r2:=KN.out.cell m2 zmb;have r3:=KN.out.cell m3 zmb;have u0:=KN.out.cell x0 zib;have u1:=KN.out.cell x1 zib;have hck:=FN.out.ck;have r0:=(hck 0 (by simp [ccells,meV])).1
       have r9:=(hck 9 (by simp [ccells,meV])).1
       have rm:=(hck 2 (by simp [ccells,meV])).1
       simp [ccells,meV] at r0 r9 rm;rw [evd] at r9;rw [evm] at rm;have lcbr:=cell_lt r0;have lib:=cell_lt u0;have lmbr:=cell_lt r1;have SG:=hsg.out k hmk;have hzw:Hid (∀ b,b < w8.heap.size→zone E vw1 b→zone E vw b):=fun b hb e=>(ZN.out b e).elim id (fun h=>by omega)
       have hms:Hid (nx.length - (n+1) < nx.length - n):=Lib.hid (by omega)
       have LO:=leads_ok hm (pairs2 E.f E.m ⟨op,ia,ib,ic,in_,iargs⟩ none (nx.take n)) HR7.out (fun p hp=>by obtain ⟨j,hj,rfl⟩:=List.mem_map.1 hp;exact hsg.out j (List.take_subset _ _ hj))
       have hwl:(leads E.f.classes ⟨R.states,R.work,true⟩ (pairs2 E.f E.m ⟨op,ia,ib,ic,in_,iargs⟩ none (nx.take n))).work.length≤100000000:=by
        have h1:=work_le E.m.regs.toNat 1 (leads E.f.classes ⟨R.states,R.work,true⟩ (pairs2 E.f E.m ⟨op,ia,ib,ic,in_,iargs⟩ none (nx.take n)));have h2:=LO.2.1;have h3:=HME.out;have h4:meas E.m.regs.toNat 1 (⟨R.states,R.work,true⟩:Flow.Run)=meas E.m.regs.toNat 1 R:=rfl;omega
       replace LO:=Lib.hid LO.1;replace hwl:=Lib.hid hwl;clear hck
       have hend:Hid (∀ (W W9:World) (vw2:Value),Below wr.heap.size wr W→Fw E W9 vw2 (Flow.lead E.f.classes (leads E.f.classes ⟨R.states,R.work,true⟩ (pairs2 E.f E.m ⟨op,ia,ib,ic,in_,iargs⟩ none (nx.take n))) k (Ckr.nstate E.f E.m ⟨op,ia,ib,ic,in_,iargs⟩ none k))→Kp (zone E vw1) W W9→(∀ j,zone E vw2 j→zone E vw1 j∨W.heap.size≤j)→Hid (Fw E W9 vw2 (leads E.f.classes ⟨R.states,R.work,true⟩ (pairs2 E.f E.m ⟨op,ia,ib,ic,in_,iargs⟩ none (nx.take (n+1)))))∧Hid (Kp (zone E vw) w8 W9)∧Hid (∀ j,zone E vw2 j→zone E vw j∨w8.heap.size≤j)):=fun W W9 vw2 hW F9 K9 Z9 =>
        ⟨by rw [pairs2_take hlt,leads_snoc,hk.out];exact F9,(kpb KN.out hW).trans K9 ZN.out,fun j hj=>(Z9 j hj).elim (ZN.out j) (fun e=>.inr (Nat.le_trans (Nat.le_trans KN.out.size hW.size) e))⟩
       go_upto_region 18 with (fail)
       obtain ⟨W2,hW2⟩:∃ W2,W2=wr.alloc (.cells #[.slice none 0 0,.slice none 0 0,.bool true] 157):=⟨_,rfl⟩;have hb2:Below wr.heap.size wr W2:=by rw [hW2];exact Rd.byB
       have hsW2:W2.heap.size=wr.heap.size+1:=by rw [hW2];simp
       have y0:W2.cell? ⟨wr.heap.size,0,none⟩=some (.slice none 0 0):=by rw [hW2];go_simp
       have y1:W2.cell? ⟨wr.heap.size,1,none⟩=some (.slice none 0 0):=by rw [hW2];go_simp
       have y2:W2.cell? ⟨wr.heap.size,2,none⟩=some (.bool true):=by rw [hW2];go_simp
       have f1:W2.frozen? ⟨wr.heap.size,1,none⟩=false:=by rw [hW2];go_simp
       replace r0:=kept hb2 lcbr r0;replace r9:=kept hb2 lcbr r9;replace rm:=kept hb2 lcbr rm;replace u0:=kept hb2 lib u0;replace u1:=kept hb2 lib u1;have FW:=Lib.hid (FN.out.below hb2);rw [← hW2];clear hW2 r1 r2 r3;have hns:Hid (Ckr.nstate E.f E.m ⟨op,ia,ib,ic,in_,iargs⟩ none k=State.bad):=Lib.hid rfl;refine Drawn.hd (fun w'=>w'.cell? ⟨E.cb,0,none⟩=some (.pointer (some ⟨E.fb,0,none⟩))) (hS:=by (try dsimp only);exact r0) (h:=fun hHeld=>?_)
       refine dT 0 86 ?_;refine dT 1 87 ?_;refine dS 2 88 ?_;refine dS 3 89 ?_;refine dS 4 90 ?_;refine dT 5 91 ?_;refine dT 6 92 ?_;refine dS 7 93 ?_;refine dS 8 94 ?_;refine dS 9 95 ?_;refine dS 10 96 ?_;refine dS 11 97 ?_;refine dS 12 98 ?_;refine dS 13 99 ?_;refine dS 14 100 ?_;refine dS 15 101 ?_;refine dS 16 102 ?_;refine dT 17 103 ?_;refine dT 18 104 ?_;refine dS 19 105 ?_;refine dS 20 106 ?_;refine dS 21 107 ?_;refine dS 22 108 ?_;refine dS 23 109 ?_;refine dS 24 110 ?_;refine dS 25 111 ?_;refine dS 26 112 ?_;refine dS 27 113 ?_;refine dS 28 114 ?_;refine dS 29 115 ?_;refine dS 30 116 ?_;refine dT 31 117 ?_;refine dN ?_
       go_wp2_with fail
       obtain ⟨W3,hW3⟩:∃ W3,W3=W2.drew:=⟨_,rfl⟩;have hb3:Below W2.heap.size W2 W3:=by rw [hW3];exact Rd.byB
       have hb23:Below wr.heap.size wr W3:=hb2.trans (hb3.mono hb2.size);replace f1:=keptf hb3 (cell_lt y1) f1;replace r0:=kept hb3 (cell_lt r0) r0;replace y0:=kept hb3 (cell_lt y0) y0;replace y1:=kept hb3 (cell_lt y1) y1;replace y2:=kept hb3 (cell_lt y2) y2;replace FW:=Lib.hid (FW.out.below hb3);have KW:=Lib.hid (kpb KN.out hb23);rw [← hW3];clear hW3
       go_still_tail 6,(by kernel_rfl)
       go_wp2_with fail
       refine (lead (FW.out.below (w':=W3.drew) (by exact Rd.byB)) hm LO.out (v:=.agg #[.slice none 0 0,.slice none 0 0,.bool true]) (s:=State.bad) ⟨_,_,rfl,TS.nil _ _,TS.nil _ _⟩ (by rw [hns.out] at SG;exact SG) hn1000.out (by decide) k hwl.out).mono ?_
       rintro e w9 ⟨rfl,vw2,F9,K9,Z9⟩;obtain ⟨P1,P2,P3⟩:=hend.out W3 w9 vw2 hb23 (by rw [hns.out];exact F9) ((Kp.drew (Kp.refl (zone E vw1) W3)).trans K9 (fun y h=>.inl h)) (fun j hj=>(Z9 j hj).imp id (fun e=>by simpa using e))
       go_wp2_with fail
       exact ⟨⟨n+1,vw2,by simp,hlt,P1,P2,P3⟩,hms.out⟩
      ·obtain rfl:n=nx.length:=by omega
       obtain ⟨wo,rfl⟩:∃ wo:World,wo=wr:=⟨_,rfl⟩;have LO9:=leads_ok hm (pairs2 E.f E.m ⟨op,ia,ib,ic,in_,iargs⟩ none (nx.take nx.length)) HR7.out (fun p hp=>by obtain ⟨x,hx,rfl⟩:=List.mem_map.1 hp;exact hsg.out x (List.take_subset _ _ hx))
       have hm9:meas E.m.regs.toNat 1 (leads E.f.classes ⟨R.states,R.work,true⟩ (pairs2 E.f E.m ⟨op,ia,ib,ic,in_,iargs⟩ none (nx.take nx.length)))≤10000000:=by
        have h2:=LO9.2.1;have h3:=HME.out;have h4:meas E.m.regs.toNat 1 (⟨R.states,R.work,true⟩:Flow.Run)=meas E.m.regs.toNat 1 R:=rfl;omega
       replace LO9:=Lib.hid LO9.1;replace hm9:=Lib.hid hm9
       have hfin:Hid (RES=leads E.f.classes (leads E.f.classes ⟨R.states,R.work,true⟩ (pairs2 E.f E.m ⟨op,ia,ib,ic,in_,iargs⟩ none (nx.take nx.length))) (hls E.m s false a E.m.handlers.length)):=by
        show _=_
        rw [← hres.out,List.take_length,hls_all,leads_app]
       generalize (leads E.f.classes ⟨R.states,R.work,true⟩ (pairs2 E.f E.m ⟨op,ia,ib,ic,in_,iargs⟩ none (nx.take nx.length)))=R9 at LO9 hm9 hfin FN
       have hno2:Hid (∀ n,∀ p∈hls E.m s false a n,StOk E.f.classes.length E.m.regs.toNat 1 p.2):=fun n p hp=>hno.out p (List.mem_append.2 (.inr (hls_sub p hp)));have Kw:=Lib.hid (K8.out.trans KN.out (fun y h=>.inl h));have Zw:Hid (∀ k,zone E vw1 k→zone E vw k∨w.heap.size≤k):=fun k hk=>(ZN.out k hk).imp id (fun e=>Nat.le_trans (Nat.le_trans hszw7 hs8) e);have r10:=(FN.out.ck 10 (by simp [ccells,meV])).1
       simp [ccells,meV] at r10;rw [evh] at r10;have lcbo:=cell_lt r10;clear KN ZN K8 hlt hn hn2 m1 m2 m3 x0 x1 hsg HR7 hno hres hi hjmp hopr
       go_wp2_with fail
       go_loopw [144] (fun c wr=>∃ (n:Nat) (vw2:Value),c=.int .i64 n∧n≤E.m.handlers.length∧Hid (Fw E wr vw2 (leads E.f.classes R9 (hls E.m s false a n)))∧Hid (Kp (zone E vw) w wr)∧Hid (∀ k,zone E vw2 k→zone E vw k∨w.heap.size≤k)) (fun c _=>E.m.handlers.length - (intOf c).toNat)
       case atStart=>exact ⟨0,vw1,rfl,Nat.zero_le _,FN,Kw,Zw⟩
       case round =>
        obtain ⟨n,vw2,rfl,hn,FM,KM,ZM⟩:=hrel
        by_cases hlt:n < E.m.handlers.length
        ·obtain ⟨hx,hxc,evh2,_,_,heh⟩:=FM.out.hands;rw [evh] at evh2;simp only [Value.slice.injEq,true_and] at evh2;obtain ⟨rfl,rfl⟩:=evh2;obtain ⟨hbk,hof,rfl,hhb,b0,b1,b2,b3,okh⟩:=heh n hlt;have hdx:=MM.hds.2 _ (List.getElem_mem hlt);have hcov:=hls_yes (s:=s) (ok:=false) (a:=a) hlt;have hunc:=hls_no (s:=s) (ok:=false) (a:=a) hlt;obtain ⟨⟨lo,hi_,gg,cl⟩,hh⟩:∃ x,Hid (E.m.handlers[n]=x):=⟨_,Lib.hid rfl⟩;rw [hh.out] at b0 b1 b2 b3 okh hdx hcov hunc;simp only [Form.hd,Bool.and_eq_true,decide_eq_true_eq,Run.rng_iff] at hdx;simp only at b0 b1 b2 b3 okh;obtain ⟨kg,rfl⟩:∃ kg:Nat,gg=(kg:Int):=⟨gg.toNat,by omega⟩
         have hkg:kg < E.m.code.length:=by omega
         simp only [Chk.covers] at hcov hunc;have hcov':=Lib.hid hcov;have hunc':=Lib.hid hunc;clear hcov hunc heh;have i9:(n:Int) < E.m.handlers.length:=by omega
         have lhb:=cell_lt b0;have r0:=(FM.out.ck 0 (by simp [ccells,meV])).1
         have r9:=(FM.out.ck 9 (by simp [ccells,meV])).1
         simp [ccells,meV] at r0 r9;rw [evd] at r9;have lcbr:=cell_lt r0;have LO:=leads_ok hm (hls E.m s false a n) LO9.out (hno2.out n)
         have hwl:(leads E.f.classes R9 (hls E.m s false a n)).work.length≤100000000:=by
          have h1:=work_le E.m.regs.toNat 1 (leads E.f.classes R9 (hls E.m s false a n));have h2:=LO.2.1;have h3:=hm9.out;omega
         replace LO:=Lib.hid LO.1;replace hwl:=Lib.hid hwl;have hms:Hid (E.m.handlers.length - (n+1) < E.m.handlers.length - n):=Lib.hid (by omega)
         have nstay:Hid (∀ W,Below wr.heap.size wr W→hls E.m s false a (n+1)=hls E.m s false a n→∃ vw3,Hid (Fw E W vw3 (leads E.f.classes R9 (hls E.m s false a (n+1))))∧Hid (Kp (zone E vw) w W)∧Hid (∀ k,zone E vw3 k→zone E vw k∨w.heap.size≤k)):=fun W hW e=>⟨vw2,by rw [e];exact FM.out.below hW,kpb KM.out hW,ZM⟩
         by_cases d1:(a:Int) < lo
         ·go_wp2
          obtain ⟨vw3,G1,G2,G3⟩:=nstay.out (wr.alloc (.cells #[.int .i64 lo,.int .i64 hi_,.int .i64 kg,.int .i64 cl] 90)) (by exact Rd.byB) (hunc'.out (by simp;omega))
          exact ⟨⟨n+1,vw3,by simp,hlt,G1,G2,G3⟩,hms.out⟩
         ·by_cases d2:hi_≤(a:Int)
          ·go_wp2
           obtain ⟨vw3,G1,G2,G3⟩:=nstay.out (wr.alloc (.cells #[.int .i64 lo,.int .i64 hi_,.int .i64 kg,.int .i64 cl] 90)) (by exact Rd.byB) (hunc'.out (by simp;omega))
           exact ⟨⟨n+1,vw3,by simp,hlt,G1,G2,G3⟩,hms.out⟩
          ·have hcv:=Lib.hid (hcov'.out (by simp;omega))
           clear hcov' hunc' nstay
           have hend:Hid (∀ (W W9:World),Below wr.heap.size wr W→(∃ vw3,Fw E W9 vw3 (Flow.lead E.f.classes (leads E.f.classes R9 (hls E.m s false a n)) kg (Ckr.hstate E.m s false ⟨lo,hi_,kg,cl⟩))∧Kp (zone E vw2) W W9∧∀ k,zone E vw3 k→zone E vw2 k∨W.heap.size≤k)→∃ vw3,Hid (Fw E W9 vw3 (leads E.f.classes R9 (hls E.m s false a (n+1))))∧Hid (Kp (zone E vw) w W9)∧Hid (∀ k,zone E vw3 k→zone E vw k∨w.heap.size≤k)):=fun W W9 hW ⟨vw3,G1,G2,G3⟩ =>
            ⟨vw3,by rw [hcv.out,leads_snoc];exact G1,(kpb KM.out hW).trans G2 ZM.out,fun k hk=>(G3 k hk).elim (ZM.out k) (fun e=>.inr (Nat.le_trans (Nat.le_trans KM.out.size hW.size) e))⟩
           have SH:Hid (StOk E.f.classes.length E.m.regs.toNat 1 (Ckr.hstate E.m s false ⟨lo,hi_,kg,cl⟩)):=hno2.out (n+1) (kg,Ckr.hstate E.m s false ⟨lo,hi_,kg,cl⟩) (by rw [hcv.out];simp)
           have zfh:Hid (∀ k,zone E vw2 k→k < wr.heap.size):=fun k hk=>(zone_lo FM.out hk).2;clear hcv
           go_upto_region 31 with (fail)
           obtain ⟨Wh,hWh⟩:∃ Wh,Wh=(wr.alloc (.cells #[.int .i64 lo,.int .i64 hi_,.int .i64 kg,.int .i64 cl] 90)).alloc (.cells #[.slice none 0 0,.slice none 0 0,.bool true] 157):=⟨_,rfl⟩;have hbh:Below wr.heap.size wr Wh:=by rw [hWh];exact Rd.byB
           have lcbr1:E.cb < wr.heap.size+1:=by omega
           have p2:Wh.cell? ⟨wr.heap.size,2,none⟩=some (.int .i64 kg):=by rw [hWh];go_simp
           have y0:Wh.cell? ⟨wr.heap.size+1,0,none⟩=some (.slice none 0 0):=by rw [hWh];go_simp
           have y1:Wh.cell? ⟨wr.heap.size+1,1,none⟩=some (.slice none 0 0):=by rw [hWh];go_simp
           have y2:Wh.cell? ⟨wr.heap.size+1,2,none⟩=some (.bool true):=by rw [hWh];go_simp
           replace r0:=kept hbh lcbr r0;have FH:=Lib.hid (FM.out.below hbh);rw [← hWh];clear hWh b0 b1 b2 b3 r9;have hst:Hid (Ckr.hstate E.m s false ⟨lo,hi_,kg,cl⟩=State.bad):=Lib.hid rfl
           go_wp2_with fail
           go_still_tail 7,(by kernel_rfl)
           go_wp2_with fail
           refine (lead (FH.out.below (w':=Wh.drew) (by exact Rd.byB)) hm LO.out (v:=.agg #[.slice none 0 0,.slice none 0 0,.bool true]) (s:=State.bad) ⟨_,_,rfl,TS.nil _ _,TS.nil _ _⟩ (by rw [hst.out] at SH;exact SH.out) hn1000.out (by decide) kg hwl.out).mono ?_
           rintro e w9 ⟨rfl,vw3,F9,K9,Z9⟩;rw [← hst.out] at F9;obtain ⟨vw4,G1,G2,G3⟩:=hend.out Wh w9 hbh ⟨vw3,F9,(Kp.drew (Kp.refl (zone E vw2) Wh)).trans K9 (fun y h=>.inl h),fun k hk=>(Z9 k hk).imp id (fun e=>by simpa using e)⟩
           go_wp2_with fail
           exact ⟨⟨n+1,vw4,by simp,hlt,G1,G2,G3⟩,hms.out⟩
        ·obtain rfl:n=E.m.handlers.length:=by omega
         go_wp2
         first | go_end0 | ((try simp only [Exit.inBlock,Exit.then]);refine bodyPost_ret (results_none rfl _ _ _) rfl ?_)
         rw [hfin.out];exact ⟨rfl,vw2,FM.out,KM.out,ZM.out⟩
   | some g =>
    as_aux_lemma =>
     simp only [Option.isSome_some,Bool.not_true,Bool.or_false] at hres hno hone ⊢;obtain ⟨t,hot,rfl⟩:=hod2.out g rfl;rw [hot] at MN4;obtain ⟨xa,mB,T9⟩:=MN4.out;replace m1:=(mB 1 (by simp)).1
     replace m2:=(mB 2 (by simp)).1
     replace m3:=(mB 3 (by simp)).1
     simp only [List.getElem_cons_zero,List.getElem_cons_succ] at m1 m2 m3;have nzz:∀ b,w.heap.size≤b→¬ zone E vw b:=fun b h1 h2=>by have:=zl b h2;omega
     have ga:TS wr (zone E vw) xa t.slots:=T9.ts (fun b hb=>nzz b (T9.lt hb).1);obtain ⟨o1,o2,rfl,_⟩:=ga.len;have F7:=Lib.hid (HF.out.below hb5w);have K7:Hid (Kp (zone E vw) w wr):=Kp.of_below hb5w (Nat.le_refl _);have hszw7:w.heap.size≤wr.heap.size:=K7.out.size;clear mB m0 e1 e2 e3 j9 j10 j2 j0 j11 y11 MN4 hb5 hb5w hb5w' hszw5 hs5 T9
     go_upto_region 14 with (fail)
     obtain ⟨W7,rfl⟩:∃ W7:World,W7=wr:=⟨_,rfl⟩;have ga':=Lib.hid ga;clear ga;have HR7:=Lib.hid (runOk_bad (b:=R.bad) HR.out);have hsg:Hid (∀ k∈nx,StOk E.f.classes.length E.m.regs.toNat 1 (Ckr.nstate E.f E.m ⟨op,ia,ib,ic,in_,iargs⟩ (some ⟨t.slots,[],false⟩) k)):=fun k hk=>hno.out (k,Ckr.nstate E.f E.m ⟨op,ia,ib,ic,in_,iargs⟩ (some ⟨t.slots,[],false⟩) k) (List.mem_append.2 (.inl (List.mem_map.2 ⟨k,hk,rfl⟩)));have lw7:=cell_lt x0;have lm7:=cell_lt m1
     go_wp2_with (go_at_call 167;refine (nexts op ia ib ic in_ iargs aa iargs.length acap a (by omega) (fun h=>(hjmp h).1)).mono ?_;rintro e w8 ⟨v2,rfl,N2,hb8⟩;rw [hnx.out] at N2;obtain ⟨nb,ncap2,rfl,nq3,nq4,hn2⟩:=N2;replace hn2:=Lib.hid hn2)
     have F8:=Lib.hid (F7.out.below hb8);have hs8:=hb8.size;replace m1:=kept hb8 lm7 m1;replace m2:=kept hb8 lm7 m2;replace m3:=kept hb8 lm7 m3;replace x0:=kept hb8 lw7 x0;replace x1:=kept hb8 lw7 x1;have K8:=Lib.hid (kpb K7.out hb8);have zmb:¬ zone E vw mb:=fun h=>by have:=zl mb h;omega
     have zib:¬ zone E vw (w.heap.size+1):=fun h=>by have:=zl _ h;omega
     have GA:=Lib.hid (ga'.out.below (X':=zone E vw) hb8 (fun _ _ e=>e));clear ga';clear F7 K7 x2 x3 x4 x5
     go_loopw [78] (fun c wr=>∃ (n:Nat) (vw1:Value),c=.int .i64 n∧n≤nx.length∧Hid (Fw E wr vw1 (leads E.f.classes ⟨R.states,R.work,R.bad⟩ (pairs2 E.f E.m ⟨op,ia,ib,ic,in_,iargs⟩ (some ⟨t.slots,[],false⟩) (nx.take n))))∧Hid (Kp (zone E vw) w8 wr)∧Hid (∀ k,zone E vw1 k→zone E vw k∨w8.heap.size≤k)) (fun c _=>nx.length - (intOf c).toNat)
     case atStart=>exact ⟨0,vw,rfl,Nat.zero_le _,F8,Lib.hid (Kp.refl _ _),Lib.hid (fun k h=>.inl h)⟩
     case round =>
      obtain ⟨n,vw1,rfl,hn,FN,KN,ZN⟩:=hrel
      by_cases hlt:n < nx.length
      ·obtain ⟨nbb,rfl,hnb,ce⟩:=hn2.out n hlt;obtain ⟨k,hk⟩:∃ k,Hid (nx.getD n 0=k):=⟨_,Lib.hid rfl⟩;have hmk:k∈nx:=by rw [← hk.out,List.getD_eq_getElem?_getD,List.getElem?_eq_getElem hlt];exact List.getElem_mem hlt
       rw [hk.out] at ce;have i9:(n:Int) < nx.length:=by omega
       have znb:¬ zone E vw nbb:=fun h=>by have:=zl nbb h;omega
       replace ce:=KN.out.cell ce znb;have r1:=KN.out.cell m1 zmb;have r2:=KN.out.cell m2 zmb;have r3:=KN.out.cell m3 zmb;have u0:=KN.out.cell x0 zib;have u1:=KN.out.cell x1 zib;have hck:=FN.out.ck;have r0:=(hck 0 (by simp [ccells,meV])).1
       have r9:=(hck 9 (by simp [ccells,meV])).1
       have rm:=(hck 2 (by simp [ccells,meV])).1
       simp [ccells,meV] at r0 r9 rm;rw [evd] at r9;rw [evm] at rm;have lcbr:=cell_lt r0;have lib:=cell_lt u0;have lmbr:=cell_lt r1;have SG:=hsg.out k hmk;have hzw:Hid (∀ b,b < w8.heap.size→zone E vw1 b→zone E vw b):=fun b hb e=>(ZN.out b e).elim id (fun h=>by omega)
       have hms:Hid (nx.length - (n+1) < nx.length - n):=Lib.hid (by omega)
       have LO:=leads_ok hm (pairs2 E.f E.m ⟨op,ia,ib,ic,in_,iargs⟩ (some ⟨t.slots,[],false⟩) (nx.take n)) HR7.out (fun p hp=>by obtain ⟨j,hj,rfl⟩:=List.mem_map.1 hp;exact hsg.out j (List.take_subset _ _ hj))
       have hwl:(leads E.f.classes ⟨R.states,R.work,R.bad⟩ (pairs2 E.f E.m ⟨op,ia,ib,ic,in_,iargs⟩ (some ⟨t.slots,[],false⟩) (nx.take n))).work.length≤100000000:=by
        have h1:=work_le E.m.regs.toNat 1 (leads E.f.classes ⟨R.states,R.work,R.bad⟩ (pairs2 E.f E.m ⟨op,ia,ib,ic,in_,iargs⟩ (some ⟨t.slots,[],false⟩) (nx.take n)));have h2:=LO.2.1;have h3:=HME.out;have h4:meas E.m.regs.toNat 1 (⟨R.states,R.work,R.bad⟩:Flow.Run)=meas E.m.regs.toNat 1 R:=rfl;omega
       replace LO:=Lib.hid LO.1;replace hwl:=Lib.hid hwl;clear hck
       have hend:Hid (∀ (W W9:World) (vw2:Value),Below wr.heap.size wr W→Fw E W9 vw2 (Flow.lead E.f.classes (leads E.f.classes ⟨R.states,R.work,R.bad⟩ (pairs2 E.f E.m ⟨op,ia,ib,ic,in_,iargs⟩ (some ⟨t.slots,[],false⟩) (nx.take n))) k (Ckr.nstate E.f E.m ⟨op,ia,ib,ic,in_,iargs⟩ (some ⟨t.slots,[],false⟩) k))→Kp (zone E vw1) W W9→(∀ j,zone E vw2 j→zone E vw1 j∨W.heap.size≤j)→Hid (Fw E W9 vw2 (leads E.f.classes ⟨R.states,R.work,R.bad⟩ (pairs2 E.f E.m ⟨op,ia,ib,ic,in_,iargs⟩ (some ⟨t.slots,[],false⟩) (nx.take (n+1)))))∧Hid (Kp (zone E vw) w8 W9)∧Hid (∀ j,zone E vw2 j→zone E vw j∨w8.heap.size≤j)):=fun W W9 vw2 hW F9 K9 Z9 =>
        ⟨by rw [pairs2_take hlt,leads_snoc,hk.out];exact F9,(kpb KN.out hW).trans K9 ZN.out,fun j hj=>(Z9 j hj).elim (ZN.out j) (fun e=>.inr (Nat.le_trans (Nat.le_trans KN.out.size hW.size) e))⟩
       go_upto_region 18 with (fail)
       obtain ⟨W2,hW2⟩:∃ W2,W2=wr.alloc (.cells #[.slice o1 t.slots.length o2,.slice none 0 0,.bool false] 157):=⟨_,rfl⟩;have hb2:Below wr.heap.size wr W2:=by rw [hW2];exact Rd.byB
       have hsW2:W2.heap.size=wr.heap.size+1:=by rw [hW2];simp
       have y0:W2.cell? ⟨wr.heap.size,0,none⟩=some (.slice o1 t.slots.length o2):=by rw [hW2];go_simp
       have y1:W2.cell? ⟨wr.heap.size,1,none⟩=some (.slice none 0 0):=by rw [hW2];go_simp
       have y2:W2.cell? ⟨wr.heap.size,2,none⟩=some (.bool false):=by rw [hW2];go_simp
       have f1:W2.frozen? ⟨wr.heap.size,1,none⟩=false:=by rw [hW2];go_simp
       replace r0:=kept hb2 lcbr r0;replace r9:=kept hb2 lcbr r9;replace rm:=kept hb2 lcbr rm;replace u0:=kept hb2 lib u0;replace u1:=kept hb2 lib u1;have FW:=Lib.hid (FN.out.below hb2);rw [← hW2];clear hW2 r1 r2 r3;have hkc:=hnl.out _ rfl k hmk;have hkc2:(k:Int) < E.m.code.length:=by omega
       by_cases e18:op=18
       rotate_left
       ·have hns:Hid (Ckr.nstate E.f E.m ⟨op,ia,ib,ic,in_,iargs⟩ (some ⟨t.slots,[],false⟩) k=⟨t.slots,[],false⟩):=by
         show _=_
         unfold Ckr.nstate Ckr.given;simp only;rw [if_neg (fun h=>e18 h.1)]
        have q18:(op==18)=false:=by simpa using e18
        refine Drawn.hd (fun w'=>w'.cell? ⟨w.heap.size+1,0,none⟩=some (.int .i64 op)) (hS:=by (try dsimp only);exact u0) (h:=fun hHeld=>?_)
        refine dT 0 86 ?_;refine dT 1 87 ?_;refine dT 2 88 ?_;refine dT 3 89 ?_;refine dT 4 90 ?_;refine dT 5 91 ?_;refine dT 6 92 ?_;refine dS 7 93 ?_;refine dS 8 94 ?_;refine dS 9 95 ?_;refine dS 10 96 ?_;refine dS 11 97 ?_;refine dS 12 98 ?_;refine dS 13 99 ?_;refine dS 14 100 ?_;refine dS 15 101 ?_;refine dS 16 102 ?_;refine dT 17 103 ?_;refine dT 18 104 ?_;refine dS 19 105 ?_;refine dS 20 106 ?_;refine dS 21 107 ?_;refine dS 22 108 ?_;refine dS 23 109 ?_;refine dS 24 110 ?_;refine dS 25 111 ?_;refine dS 26 112 ?_;refine dS 27 113 ?_;refine dS 28 114 ?_;refine dS 29 115 ?_;refine dS 30 116 ?_;refine dT 31 117 ?_;refine dN ?_
        go_wp2_with fail
        obtain ⟨W3,hW3⟩:∃ W3,W3=W2.drew:=⟨_,rfl⟩;have hb3:Below W2.heap.size W2 W3:=by rw [hW3];exact Rd.byB
        have hb23:Below wr.heap.size wr W3:=hb2.trans (hb3.mono hb2.size);replace f1:=keptf hb3 (cell_lt y1) f1;replace r0:=kept hb3 (cell_lt r0) r0;replace y0:=kept hb3 (cell_lt y0) y0;replace y1:=kept hb3 (cell_lt y1) y1;replace y2:=kept hb3 (cell_lt y2) y2;replace FW:=Lib.hid (FW.out.below hb3);have KW:=Lib.hid (kpb KN.out hb23);rw [← hW3];clear hW3
        go_still_tail 6,(by kernel_rfl)
        go_wp2_with fail
        refine (lead (FW.out.below (w':=W3.drew) (by exact Rd.byB)) hm LO.out (v:=.agg #[.slice o1 t.slots.length o2,.slice none 0 0,.bool false]) (s:=⟨t.slots,[],false⟩) ⟨_,_,rfl,GA.out.next (X':=zone E vw1) (KW.out.drew) (fun _ _ e=>e) hzw.out,TS.nil _ _⟩ (by rw [hns.out] at SG;exact SG) hn1000.out (by decide) k hwl.out).mono ?_
        rintro e w9 ⟨rfl,vw2,F9,K9,Z9⟩;obtain ⟨P1,P2,P3⟩:=hend.out W3 w9 vw2 hb23 (by rw [hns.out];exact F9) ((Kp.drew (Kp.refl (zone E vw1) W3)).trans K9 (fun y h=>.inl h)) (fun j hj=>(Z9 j hj).imp id (fun e=>by simpa using e))
        go_wp2_with fail
        exact ⟨⟨n+1,vw2,by simp,hlt,P1,P2,P3⟩,hms.out⟩
       subst e18;have mk1:=(hi.meth rfl).1;simp only at mk1;obtain ⟨kf,rfl⟩:=nat_of mk1.1;have hkf:kf < E.f.methods.length:=by omega
       have hkf2:(kf:Int) < E.f.methods.length:=by omega
       have hcode:=FW.out.code;rw [evd] at hcode;obtain ⟨cdb,cdo,ecd,lcd,cq1,cq2,cop⟩:=op_cell hcode hkc;simp only [Option.some.injEq,Addr.mk.injEq,and_true,true_and] at ecd;obtain ⟨rfl,rfl⟩:=ecd;have hmes:=FW.out.mes;rw [evm] at hmes;obtain ⟨mdb,mdo,rfl,lmd,mq1,mq2,mrk,mrc,mok⟩:=ret_cell hmes hkf;clear hcode hmes;obtain ⟨kop,hkop⟩:∃ x,Hid ((Chk.insAt E.m k).op=x):=⟨_,Lib.hid rfl⟩;rw [hkop.out] at cop;obtain ⟨⟨rk,rc⟩,hret⟩:∃ x,Hid ((Run.meAt E.f kf).ret=x):=⟨_,Lib.hid rfl⟩;rw [hret.out] at mrk mrc mok;simp only at mrk mrc
       have hgv:Hid (Ckr.nstate E.f E.m ⟨18,(kf:Int),ib,ic,in_,iargs⟩ (some ⟨t.slots,[],false⟩) k=⟨t.slots,if kop=19∧rk≠0 then [⟨rk,rc⟩] else [],false⟩):=by
        show _=_
        unfold Ckr.nstate Ckr.given Ckr.meRef;simp only [Int.toNat_natCast,hkop.out,hret.out,true_and]
       have ldbw:=cell_lt cop;have lmbw2:=cell_lt mrk
       by_cases e19:kop=19
       rotate_left
       ·have hns:Hid (Ckr.nstate E.f E.m ⟨18,(kf:Int),ib,ic,in_,iargs⟩ (some ⟨t.slots,[],false⟩) k=⟨t.slots,[],false⟩):=hgv.out.trans (by rw [if_neg (fun h=>e19 h.1)])
        have q19:(kop==19)=false:=by simpa using e19
        refine Drawn.hd (fun w'=>(w'.cell? ⟨w.heap.size+1,0,none⟩=some (.int .i64 18)∧w'.cell? ⟨E.cb,9,none⟩=some (.slice (some ⟨db,dof,none⟩) E.m.code.length dcap))∧w'.cell? ⟨db,dof+k*6,none⟩=some (.int .i64 kop)) (hS:=by (try dsimp only);exact ⟨⟨u0,r9⟩,cop⟩) (h:=fun hHeld=>?_)
        refine dT 0 86 ?_;refine dT 1 87 ?_;refine dT 2 88 ?_;refine dT 3 89 ?_;refine dT 4 90 ?_;refine dT 5 91 ?_;refine dT 6 92 ?_;refine dT 7 93 ?_;refine dT 8 94 ?_;refine dT 9 95 ?_;refine dT 10 96 ?_;refine dT 11 97 ?_;refine dT 12 98 ?_;refine dT 13 99 ?_;refine dT 14 100 ?_;refine dT 15 101 ?_;refine dT 16 102 ?_;refine dT 17 103 ?_;refine dT 18 104 ?_;refine dS 19 105 ?_;refine dS 20 106 ?_;refine dS 21 107 ?_;refine dS 22 108 ?_;refine dS 23 109 ?_;refine dS 24 110 ?_;refine dS 25 111 ?_;refine dS 26 112 ?_;refine dS 27 113 ?_;refine dS 28 114 ?_;refine dS 29 115 ?_;refine dS 30 116 ?_;refine dT 31 117 ?_;refine dN ?_;clear hgv hkop hret cop mrk mrc mok ldbw lmbw2 mq1 mq2 cq1 cq2 lcd lmd hkf hkf2 mk1 hkc hkc2 rm r9 u0 u1 hi hjmp hopr;clear e19 q19
        go_wp2_with fail
        obtain ⟨W3,hW3⟩:∃ W3,W3=W2.drew:=⟨_,rfl⟩;have hb3:Below W2.heap.size W2 W3:=by rw [hW3];exact Rd.byB
        have hb23:Below wr.heap.size wr W3:=hb2.trans (hb3.mono hb2.size);replace f1:=keptf hb3 (cell_lt y1) f1;replace r0:=kept hb3 (cell_lt r0) r0;replace y0:=kept hb3 (cell_lt y0) y0;replace y1:=kept hb3 (cell_lt y1) y1;replace y2:=kept hb3 (cell_lt y2) y2;replace FW:=Lib.hid (FW.out.below hb3);have KW:=Lib.hid (kpb KN.out hb23);rw [← hW3];clear hW3
        go_still_tail 6,(by kernel_rfl)
        go_wp2_with fail
        refine (lead (FW.out.below (w':=W3.drew) (by exact Rd.byB)) hm LO.out (v:=.agg #[.slice o1 t.slots.length o2,.slice none 0 0,.bool false]) (s:=⟨t.slots,[],false⟩) ⟨_,_,rfl,GA.out.next (X':=zone E vw1) (KW.out.drew) (fun _ _ e=>e) hzw.out,TS.nil _ _⟩ (by rw [hns.out] at SG;exact SG) hn1000.out (by decide) k hwl.out).mono ?_
        rintro e w9 ⟨rfl,vw2,F9,K9,Z9⟩;obtain ⟨P1,P2,P3⟩:=hend.out W3 w9 vw2 hb23 (by rw [hns.out];exact F9) ((Kp.drew (Kp.refl (zone E vw1) W3)).trans K9 (fun y h=>.inl h)) (fun j hj=>(Z9 j hj).imp id (fun e=>by simpa using e))
        go_wp2_with fail
        exact ⟨⟨n+1,vw2,by simp,hlt,P1,P2,P3⟩,hms.out⟩
       subst e19
       by_cases er:rk=0
       ·have hns:Hid (Ckr.nstate E.f E.m ⟨18,(kf:Int),ib,ic,in_,iargs⟩ (some ⟨t.slots,[],false⟩) k=⟨t.slots,[],false⟩):=hgv.out.trans (by rw [if_neg (fun h=>h.2 er)])
        have qr:(rk != 0)=false:=by simpa using er
        refine Drawn.hd (fun w'=>((w'.cell? ⟨w.heap.size+1,0,none⟩=some (.int .i64 18)∧w'.cell? ⟨w.heap.size+1,1,none⟩=some (.int .i64 kf))∧w'.cell? ⟨E.cb,9,none⟩=some (.slice (some ⟨db,dof,none⟩) E.m.code.length dcap)∧w'.cell? ⟨E.cb,2,none⟩=some (.slice (some ⟨mdb,mdo,none⟩) E.f.methods.length mecap))∧w'.cell? ⟨db,dof+k*6,none⟩=some (.int .i64 19)∧w'.cell? ⟨mdb,mdo+kf*8+1,none⟩=some (.int .i64 rk)) (hS:=by (try dsimp only);exact ⟨⟨⟨u0,u1⟩,r9,rm⟩,cop,mrk⟩) (h:=fun hHeld=>?_)
        refine dT 0 86 ?_;refine dT 1 87 ?_;refine dT 2 88 ?_;refine dT 3 89 ?_;refine dT 4 90 ?_;refine dT 5 91 ?_;refine dT 6 92 ?_;refine dT 7 93 ?_;refine dT 8 94 ?_;refine dT 9 95 ?_;refine dT 10 96 ?_;refine dT 11 97 ?_;refine dT 12 98 ?_;refine dT 13 99 ?_;refine dT 14 100 ?_;refine dT 15 101 ?_;refine dT 16 102 ?_;refine dT 17 103 ?_;refine dT 18 104 ?_;refine dT 19 105 ?_;refine dT 20 106 ?_;refine dT 21 107 ?_;refine dT 22 108 ?_;refine dT 23 109 ?_;refine dT 24 110 ?_;refine dT 25 111 ?_;refine dT 26 112 ?_;refine dT 27 113 ?_;refine dT 28 114 ?_;refine dT 29 115 ?_;refine dT 30 116 ?_;refine dT 31 117 ?_;refine dN ?_;clear hgv hkop hret cop mrk mrc mok ldbw lmbw2 mq1 mq2 cq1 cq2 lcd lmd hkf hkf2 mk1 hkc hkc2 rm r9 u0 u1 hi hjmp hopr;clear qr er
        go_wp2_with fail
        obtain ⟨W3,hW3⟩:∃ W3,W3=W2.drew:=⟨_,rfl⟩;have hb3:Below W2.heap.size W2 W3:=by rw [hW3];exact Rd.byB
        have hb23:Below wr.heap.size wr W3:=hb2.trans (hb3.mono hb2.size);replace f1:=keptf hb3 (cell_lt y1) f1;replace r0:=kept hb3 (cell_lt r0) r0;replace y0:=kept hb3 (cell_lt y0) y0;replace y1:=kept hb3 (cell_lt y1) y1;replace y2:=kept hb3 (cell_lt y2) y2;replace FW:=Lib.hid (FW.out.below hb3);have KW:=Lib.hid (kpb KN.out hb23);rw [← hW3];clear hW3
        go_still_tail 6,(by kernel_rfl)
        go_wp2_with fail
        refine (lead (FW.out.below (w':=W3.drew) (by exact Rd.byB)) hm LO.out (v:=.agg #[.slice o1 t.slots.length o2,.slice none 0 0,.bool false]) (s:=⟨t.slots,[],false⟩) ⟨_,_,rfl,GA.out.next (X':=zone E vw1) (KW.out.drew) (fun _ _ e=>e) hzw.out,TS.nil _ _⟩ (by rw [hns.out] at SG;exact SG) hn1000.out (by decide) k hwl.out).mono ?_
        rintro e w9 ⟨rfl,vw2,F9,K9,Z9⟩;obtain ⟨P1,P2,P3⟩:=hend.out W3 w9 vw2 hb23 (by rw [hns.out];exact F9) ((Kp.drew (Kp.refl (zone E vw1) W3)).trans K9 (fun y h=>.inl h)) (fun j hj=>(Z9 j hj).imp id (fun e=>by simpa using e))
        go_wp2_with fail
        exact ⟨⟨n+1,vw2,by simp,hlt,P1,P2,P3⟩,hms.out⟩
       ·have hns:Hid (Ckr.nstate E.f E.m ⟨18,(kf:Int),ib,ic,in_,iargs⟩ (some ⟨t.slots,[],false⟩) k=⟨t.slots,[⟨rk,rc⟩],false⟩):=hgv.out.trans (by rw [if_pos ⟨rfl,er⟩])
        have qr:(rk != 0)=true:=by simpa using er
        refine Drawn.hd (fun w'=>((w'.cell? ⟨w.heap.size+1,0,none⟩=some (.int .i64 18)∧w'.cell? ⟨w.heap.size+1,1,none⟩=some (.int .i64 kf))∧w'.cell? ⟨E.cb,9,none⟩=some (.slice (some ⟨db,dof,none⟩) E.m.code.length dcap)∧w'.cell? ⟨E.cb,2,none⟩=some (.slice (some ⟨mdb,mdo,none⟩) E.f.methods.length mecap))∧w'.cell? ⟨db,dof+k*6,none⟩=some (.int .i64 19)∧w'.cell? ⟨mdb,mdo+kf*8+1,none⟩=some (.int .i64 rk)) (hS:=by (try dsimp only);exact ⟨⟨⟨u0,u1⟩,r9,rm⟩,cop,mrk⟩) (h:=fun hHeld=>?_)
        refine dT 0 86 ?_;refine dT 1 87 ?_;refine dT 2 88 ?_;refine dT 3 89 ?_;refine dT 4 90 ?_;refine dT 5 91 ?_;refine dT 6 92 ?_;refine dT 7 93 ?_;refine dT 8 94 ?_;refine dT 9 95 ?_;refine dT 10 96 ?_;refine dT 11 97 ?_;refine dT 12 98 ?_;refine dT 13 99 ?_;refine dT 14 100 ?_;refine dT 15 101 ?_;refine dT 16 102 ?_;refine dT 17 103 ?_;refine dT 18 104 ?_;refine dT 19 105 ?_;refine dT 20 106 ?_;refine dT 21 107 ?_;refine dT 22 108 ?_;refine dT 23 109 ?_;refine dT 24 110 ?_;refine dT 25 111 ?_;refine dT 26 112 ?_;refine dT 27 113 ?_;refine dT 28 114 ?_;refine dT 29 115 ?_;refine dT 30 116 ?_;refine dT 31 117 ?_;refine dN ?_
        go_wp2_with fail
        obtain ⟨W3,hW3⟩:∃ W3,W3=W2.drew:=⟨_,rfl⟩;have hb3:Below W2.heap.size W2 W3:=by rw [hW3];exact Rd.byB
        have hb23:Below wr.heap.size wr W3:=hb2.trans (hb3.mono hb2.size);replace f1:=keptf hb3 (cell_lt y1) f1;replace r0:=kept hb3 (cell_lt r0) r0;replace y0:=kept hb3 (cell_lt y0) y0;replace y1:=kept hb3 (cell_lt y1) y1;replace y2:=kept hb3 (cell_lt y2) y2;replace FW:=Lib.hid (FW.out.below hb3);have KW:=Lib.hid (kpb KN.out hb23);rw [← hW3];clear hW3;have rm3:=kept hb3 (cell_lt rm) rm;have u13:=kept hb3 (cell_lt u1) u1;have mrk3:=kept hb3 (cell_lt mrk) mrk;have mrc3:=kept hb3 (cell_lt mrc) mrc;have l3:=cell_lt y1;have l4:=cell_lt rm3;have l5:=cell_lt u13;have l6:=cell_lt mrk3;have l7:=cell_lt r0;have n1:¬ wr.heap.size=E.cb:=by omega
        have n2:¬ wr.heap.size=w.heap.size+1:=by omega
        have n3:¬ wr.heap.size=mdb:=by omega
        go_wp2_with fail
        refine Drawn.hd (fun w'=>(w'.cell? ⟨E.cb,2,none⟩=some (.slice (some ⟨mdb,mdo,none⟩) E.f.methods.length mecap)∧w'.cell? ⟨w.heap.size+1,1,none⟩=some (.int .i64 kf))∧w'.cell? ⟨mdb,mdo+kf*8+1,none⟩=some (.int .i64 rk)∧w'.cell? ⟨mdb,mdo+kf*8+2,none⟩=some (.int .i64 rc)) (hS:=by (try dsimp only);exact ⟨⟨rm3,u13⟩,mrk3,mrc3⟩) (h:=fun hHeld=>?_)
        refine dT 0 118 ?_;refine dT 1 119 ?_;refine dT 2 120 ?_;refine dT 3 121 ?_;refine dT 4 122 ?_;refine dT 5 123 ?_;refine dT 6 124 ?_;refine dT 7 125 ?_;refine dT 8 126 ?_;refine dT 9 127 ?_;refine Drawn.cl 10 (fun K hK=>?_);go_simp;refine Drawn.bk hK (hS:=by (try dsimp only);refine ⟨⟨?_,?_⟩,?_,?_⟩ <;> go_simp) (h:=fun hHeld=>?_)
        clear hK K;refine dT 11 129 ?_;refine Drawn.cl 12 (fun K hK=>?_);go_simp;refine Drawn.bk hK (hS:=by (try dsimp only);refine ⟨⟨?_,?_⟩,?_,?_⟩ <;> go_simp) (h:=fun hHeld=>?_)
        clear hK K;refine dN ?_
        go_wp2_with fail
        clear hgv hkop hret cop mrk mrc ldbw lmbw2 mq1 mq2 cq1 cq2 lcd lmd hkf hkf2 mk1 hkc hkc2 rm r9 u0 u1 hi hjmp hopr;clear qr er rm3 u13 mrk3 mrc3 l4 l5 l6 n2 n3;obtain ⟨W4,hW4⟩:∃ W4,W4=((W3.setCell ⟨wr.heap.size,1,none⟩ (.slice (some ⟨W3.heap.size,0,none⟩) 1 1)).alloc (.cells #[.int .i64 rk,.int .i64 rc] 51)).drew:=⟨_,rfl⟩;have hs3:=hb23.size;have hb24:Below wr.heap.size wr W4:=by rw [hW4];exact Below.drew (Below.alloc (Below.setCell hb23 (by show wr.heap.size≤wr.heap.size;omega) _) (by simp;omega) _)
        replace r0:W4.cell? ⟨E.cb,0,none⟩=some (.pointer (some ⟨E.fb,0,none⟩)):=by rw [hW4];go_simp
        replace y0:W4.cell? ⟨wr.heap.size,0,none⟩=some (.slice o1 t.slots.length o2):=by rw [hW4];go_simp
        replace y1:W4.cell? ⟨wr.heap.size,1,none⟩=some (.slice (some ⟨W3.heap.size,0,none⟩) 1 1):=by rw [hW4];go_simp
        replace y2:W4.cell? ⟨wr.heap.size,2,none⟩=some (.bool false):=by rw [hW4];go_simp
        have z0:W4.cell? ⟨W3.heap.size,0,none⟩=some (.int .i64 rk):=by rw [hW4];go_simp
        have z1:W4.cell? ⟨W3.heap.size,1,none⟩=some (.int .i64 rc):=by rw [hW4];go_simp
        have nz:¬ zone E vw1 W3.heap.size:=fun h=>by have:=(zone_lo FN.out h).2;omega
        replace FW:=Lib.hid (FN.out.below hb24);replace KW:=Lib.hid (kpb KN.out hb24);have TT:Hid (TS W4 (zone E vw1) (.slice (some ⟨W3.heap.size,0,none⟩) 1 1) [⟨rk,rc⟩]):=ts_one nz z0 z1 mok;rw [← hW4];clear hW4 z0 z1 nz l3 l7 n1 hb3 hb23 f1 hs3 mok
        go_still_tail 6,(by kernel_rfl)
        go_wp2_with fail
        refine (lead (FW.out.below (w':=W4.drew) (by exact Rd.byB)) hm LO.out (v:=.agg #[.slice o1 t.slots.length o2,.slice (some ⟨W3.heap.size,0,none⟩) 1 1,.bool false]) (s:=⟨t.slots,[⟨rk,rc⟩],false⟩) ⟨_,_,rfl,GA.out.next (X':=zone E vw1) (KW.out.drew) (fun _ _ e=>e) hzw.out,TT.out.below (X':=zone E vw1) (by exact Rd.byB) (fun _ _ e=>e)⟩ (by rw [hns.out] at SG;exact SG) hn1000.out (by decide) k hwl.out).mono ?_
        rintro e w9 ⟨rfl,vw2,F9,K9,Z9⟩;obtain ⟨P1,P2,P3⟩:=hend.out W4 w9 vw2 hb24 (by rw [hns.out];exact F9) ((Kp.drew (Kp.refl (zone E vw1) W4)).trans K9 (fun y h=>.inl h)) (fun j hj=>(Z9 j hj).imp id (fun e=>by simpa using e))
        go_wp2_with fail
        exact ⟨⟨n+1,vw2,by simp,hlt,P1,P2,P3⟩,hms.out⟩
      ·obtain rfl:n=nx.length:=by omega
       obtain ⟨wo,rfl⟩:∃ wo:World,wo=wr:=⟨_,rfl⟩;have LO9:=leads_ok hm (pairs2 E.f E.m ⟨op,ia,ib,ic,in_,iargs⟩ (some ⟨t.slots,[],false⟩) (nx.take nx.length)) HR7.out (fun p hp=>by obtain ⟨x,hx,rfl⟩:=List.mem_map.1 hp;exact hsg.out x (List.take_subset _ _ hx))
       have hm9:meas E.m.regs.toNat 1 (leads E.f.classes ⟨R.states,R.work,R.bad⟩ (pairs2 E.f E.m ⟨op,ia,ib,ic,in_,iargs⟩ (some ⟨t.slots,[],false⟩) (nx.take nx.length)))≤10000000:=by
        have h2:=LO9.2.1;have h3:=HME.out;have h4:meas E.m.regs.toNat 1 (⟨R.states,R.work,R.bad⟩:Flow.Run)=meas E.m.regs.toNat 1 R:=rfl;omega
       replace LO9:=Lib.hid LO9.1;replace hm9:=Lib.hid hm9
       have hfin:Hid (RES=leads E.f.classes (leads E.f.classes ⟨R.states,R.work,R.bad⟩ (pairs2 E.f E.m ⟨op,ia,ib,ic,in_,iargs⟩ (some ⟨t.slots,[],false⟩) (nx.take nx.length))) (hls E.m s true a E.m.handlers.length)):=by
        show _=_
        rw [← hres.out,List.take_length,hls_all,leads_app]
       generalize (leads E.f.classes ⟨R.states,R.work,R.bad⟩ (pairs2 E.f E.m ⟨op,ia,ib,ic,in_,iargs⟩ (some ⟨t.slots,[],false⟩) (nx.take nx.length)))=R9 at LO9 hm9 hfin FN
       have hno2:Hid (∀ n,∀ p∈hls E.m s true a n,StOk E.f.classes.length E.m.regs.toNat 1 p.2):=fun n p hp=>hno.out p (List.mem_append.2 (.inr (hls_sub p hp)));have Kw:=Lib.hid (K8.out.trans KN.out (fun y h=>.inl h));have Zw:Hid (∀ k,zone E vw1 k→zone E vw k∨w.heap.size≤k):=fun k hk=>(ZN.out k hk).imp id (fun e=>Nat.le_trans (Nat.le_trans hszw7 hs8) e);have r10:=(FN.out.ck 10 (by simp [ccells,meV])).1
       simp [ccells,meV] at r10;rw [evh] at r10;have lcbo:=cell_lt r10;clear KN ZN K8 hlt hn hn2 m1 m2 m3 x0 x1 GA hsg HR7 hno hres hi hjmp hopr
       go_wp2_with fail
       go_loopw [144] (fun c wr=>∃ (n:Nat) (vw2:Value),c=.int .i64 n∧n≤E.m.handlers.length∧Hid (Fw E wr vw2 (leads E.f.classes R9 (hls E.m s true a n)))∧Hid (Kp (zone E vw) w wr)∧Hid (∀ k,zone E vw2 k→zone E vw k∨w.heap.size≤k)) (fun c _=>E.m.handlers.length - (intOf c).toNat)
       case atStart=>exact ⟨0,vw1,rfl,Nat.zero_le _,FN,Kw,Zw⟩
       case round =>
        obtain ⟨n,vw2,rfl,hn,FM,KM,ZM⟩:=hrel
        by_cases hlt:n < E.m.handlers.length
        ·obtain ⟨hx,hxc,evh2,_,_,heh⟩:=FM.out.hands;rw [evh] at evh2;simp only [Value.slice.injEq,true_and] at evh2;obtain ⟨rfl,rfl⟩:=evh2;obtain ⟨hbk,hof,rfl,hhb,b0,b1,b2,b3,okh⟩:=heh n hlt;have hdx:=MM.hds.2 _ (List.getElem_mem hlt);have hcov:=hls_yes (s:=s) (ok:=true) (a:=a) hlt;have hunc:=hls_no (s:=s) (ok:=true) (a:=a) hlt;obtain ⟨⟨lo,hi_,gg,cl⟩,hh⟩:∃ x,Hid (E.m.handlers[n]=x):=⟨_,Lib.hid rfl⟩;rw [hh.out] at b0 b1 b2 b3 okh hdx hcov hunc;simp only [Form.hd,Bool.and_eq_true,decide_eq_true_eq,Run.rng_iff] at hdx;simp only at b0 b1 b2 b3 okh;obtain ⟨kg,rfl⟩:∃ kg:Nat,gg=(kg:Int):=⟨gg.toNat,by omega⟩
         have hkg:kg < E.m.code.length:=by omega
         simp only [Chk.covers] at hcov hunc;have hcov':=Lib.hid hcov;have hunc':=Lib.hid hunc;clear hcov hunc heh;have i9:(n:Int) < E.m.handlers.length:=by omega
         have lhb:=cell_lt b0;have r0:=(FM.out.ck 0 (by simp [ccells,meV])).1
         have r9:=(FM.out.ck 9 (by simp [ccells,meV])).1
         simp [ccells,meV] at r0 r9;rw [evd] at r9;have lcbr:=cell_lt r0;have LO:=leads_ok hm (hls E.m s true a n) LO9.out (hno2.out n)
         have hwl:(leads E.f.classes R9 (hls E.m s true a n)).work.length≤100000000:=by
          have h1:=work_le E.m.regs.toNat 1 (leads E.f.classes R9 (hls E.m s true a n));have h2:=LO.2.1;have h3:=hm9.out;omega
         replace LO:=Lib.hid LO.1;replace hwl:=Lib.hid hwl;have hms:Hid (E.m.handlers.length - (n+1) < E.m.handlers.length - n):=Lib.hid (by omega)
         have nstay:Hid (∀ W,Below wr.heap.size wr W→hls E.m s true a (n+1)=hls E.m s true a n→∃ vw3,Hid (Fw E W vw3 (leads E.f.classes R9 (hls E.m s true a (n+1))))∧Hid (Kp (zone E vw) w W)∧Hid (∀ k,zone E vw3 k→zone E vw k∨w.heap.size≤k)):=fun W hW e=>⟨vw2,by rw [e];exact FM.out.below hW,kpb KM.out hW,ZM⟩
         by_cases d1:(a:Int) < lo
         ·go_wp2
          obtain ⟨vw3,G1,G2,G3⟩:=nstay.out (wr.alloc (.cells #[.int .i64 lo,.int .i64 hi_,.int .i64 kg,.int .i64 cl] 90)) (by exact Rd.byB) (hunc'.out (by simp;omega))
          exact ⟨⟨n+1,vw3,by simp,hlt,G1,G2,G3⟩,hms.out⟩
         ·by_cases d2:hi_≤(a:Int)
          ·go_wp2
           obtain ⟨vw3,G1,G2,G3⟩:=nstay.out (wr.alloc (.cells #[.int .i64 lo,.int .i64 hi_,.int .i64 kg,.int .i64 cl] 90)) (by exact Rd.byB) (hunc'.out (by simp;omega))
           exact ⟨⟨n+1,vw3,by simp,hlt,G1,G2,G3⟩,hms.out⟩
          ·have hcv:=Lib.hid (hcov'.out (by simp;omega))
           clear hcov' hunc' nstay
           have hend:Hid (∀ (W W9:World),Below wr.heap.size wr W→(∃ vw3,Fw E W9 vw3 (Flow.lead E.f.classes (leads E.f.classes R9 (hls E.m s true a n)) kg (Ckr.hstate E.m s true ⟨lo,hi_,kg,cl⟩))∧Kp (zone E vw2) W W9∧∀ k,zone E vw3 k→zone E vw2 k∨W.heap.size≤k)→∃ vw3,Hid (Fw E W9 vw3 (leads E.f.classes R9 (hls E.m s true a (n+1))))∧Hid (Kp (zone E vw) w W9)∧Hid (∀ k,zone E vw3 k→zone E vw k∨w.heap.size≤k)):=fun W W9 hW ⟨vw3,G1,G2,G3⟩ =>
            ⟨vw3,by rw [hcv.out,leads_snoc];exact G1,(kpb KM.out hW).trans G2 ZM.out,fun k hk=>(G3 k hk).elim (ZM.out k) (fun e=>.inr (Nat.le_trans (Nat.le_trans KM.out.size hW.size) e))⟩
           have SH:Hid (StOk E.f.classes.length E.m.regs.toNat 1 (Ckr.hstate E.m s true ⟨lo,hi_,kg,cl⟩)):=hno2.out (n+1) (kg,Ckr.hstate E.m s true ⟨lo,hi_,kg,cl⟩) (by rw [hcv.out];simp)
           have zfh:Hid (∀ k,zone E vw2 k→k < wr.heap.size):=fun k hk=>(zone_lo FM.out hk).2;clear hcv
           go_upto_region 29 with (fail)
           obtain ⟨Wh,hWh⟩:∃ Wh,Wh=(wr.alloc (.cells #[.int .i64 lo,.int .i64 hi_,.int .i64 kg,.int .i64 cl] 90)).alloc (.cells #[.slice c1 s.slots.length n1,.slice none 0 0,.bool false] 157):=⟨_,rfl⟩;have hbh:Below wr.heap.size wr Wh:=by rw [hWh];exact Rd.byB
           have hsh:Wh.heap.size=wr.heap.size+1+1:=by rw [hWh];simp
           have p2:Wh.cell? ⟨wr.heap.size,2,none⟩=some (.int .i64 kg):=by rw [hWh];go_simp
           have p3:Wh.cell? ⟨wr.heap.size,3,none⟩=some (.int .i64 cl):=by rw [hWh];go_simp
           have y0:Wh.cell? ⟨wr.heap.size+1,0,none⟩=some (.slice c1 s.slots.length n1):=by rw [hWh];go_simp
           have y1:Wh.cell? ⟨wr.heap.size+1,1,none⟩=some (.slice none 0 0):=by rw [hWh];go_simp
           have y2:Wh.cell? ⟨wr.heap.size+1,2,none⟩=some (.bool false):=by rw [hWh];go_simp
           have f1:Wh.frozen? ⟨wr.heap.size+1,1,none⟩=false:=by rw [hWh];go_simp
           replace r0:=kept hbh lcbr r0;replace r9:=kept hbh lcbr r9;have FH:=Lib.hid (FM.out.below hbh);have hcode:=FM.out.code;rw [evd] at hcode;obtain ⟨cdb,cdo,ecd,lcd,cq1,cq2,cop⟩:=op_cell hcode hkg;simp only [Option.some.injEq,Addr.mk.injEq,and_true,true_and] at ecd;obtain ⟨rfl,rfl⟩:=ecd;clear hcode;obtain ⟨kop,hkop⟩:∃ x,Hid ((Chk.insAt E.m kg).op=x):=⟨_,Lib.hid rfl⟩;rw [hkop.out] at cop;replace cop:=kept hbh (cell_lt cop) cop;have hkg2:(kg:Int) < E.m.code.length:=by omega
           have hgv:Hid (Ckr.hstate E.m s true ⟨lo,hi_,kg,cl⟩=⟨s.slots,if kop=22 then [⟨3,cl⟩] else [],false⟩):=by
            show _=_
            unfold Ckr.hstate;rw [if_neg (by simp)]
            simp only [Int.toNat_natCast,hkop.out]
           have okcl:=okh.2.2.2;rw [← hWh];clear hWh b0 b1 b2 b3 hkop okh hdx
           go_wp2_with fail
           refine Drawn.hd (fun w'=>(w'.cell? ⟨E.cb,9,none⟩=some (.slice (some ⟨db,dof,none⟩) E.m.code.length dcap)∧w'.cell? ⟨wr.heap.size,2,none⟩=some (.int .i64 kg))∧w'.cell? ⟨db,dof+kg*6,none⟩=some (.int .i64 kop)) (hS:=by (try dsimp only);exact ⟨⟨r9,p2⟩,cop⟩) (h:=fun hHeld=>?_)
           refine dT 0 163 ?_;refine dT 1 164 ?_;refine dT 2 165 ?_;refine dT 3 166 ?_;refine dT 4 167 ?_;refine dT 5 168 ?_;refine dT 6 169 ?_;refine dT 7 170 ?_;refine dT 8 171 ?_;refine dT 9 172 ?_;refine dT 10 173 ?_;refine dN ?_;obtain ⟨W4,hW4⟩:∃ W4,W4=Wh.drew:=⟨_,rfl⟩;have hb4:Below Wh.heap.size Wh W4:=by rw [hW4];exact Rd.byB
           have hs4:W4.heap.size=Wh.heap.size:=by rw [hW4];simp
           replace hbh:Below wr.heap.size wr W4:=hbh.trans (hb4.mono hbh.size);replace f1:=keptf hb4 (cell_lt y1) f1;replace r0:=kept hb4 (cell_lt r0) r0;replace p2:=kept hb4 (cell_lt p2) p2;replace p3:=kept hb4 (cell_lt p3) p3;replace y0:=kept hb4 (cell_lt y0) y0;replace y1:=kept hb4 (cell_lt y1) y1;replace y2:=kept hb4 (cell_lt y2) y2;replace FH:=Lib.hid (FH.out.below hb4);have KH:=Lib.hid (kpb KM.out hbh);rw [← hW4];clear hW4 cop cq1 cq2 lcd hkg2 hb4 r9;have hzv:Hid (∀ b,b < w.heap.size→zone E vw2 b→zone E vw b):=fun b hb e=>(ZM.out b e).elim id (fun h=>by omega)
           by_cases e22:kop=22
           rotate_left
           ·have q22:(kop==22)=false:=by simpa using e22
            have hst:Hid (Ckr.hstate E.m s true ⟨lo,hi_,kg,cl⟩=⟨s.slots,[],false⟩):=hgv.out.trans (by rw [if_neg e22])
            clear hgv e22
            go_wp2_with fail
            go_still_tail 7,(by kernel_rfl)
            go_wp2_with fail
            refine (lead (FH.out.below (w':=W4.drew) (by exact Rd.byB)) hm LO.out (v:=.agg #[.slice c1 s.slots.length n1,.slice none 0 0,.bool false]) (s:=⟨s.slots,[],false⟩) ⟨_,_,rfl,S1.out.next (X':=zone E vw2) (KH.out.drew) (fun _ _ e=>e) hzv.out,TS.nil _ _⟩ (by rw [hst.out] at SH;exact SH.out) hn1000.out (by decide) kg hwl.out).mono ?_
            rintro e w9 ⟨rfl,vw3,F9,K9,Z9⟩;rw [← hst.out] at F9;obtain ⟨vw4,G1,G2,G3⟩:=hend.out W4 w9 hbh ⟨vw3,F9,(Kp.drew (Kp.refl (zone E vw2) W4)).trans K9 (fun y h=>.inl h),fun k hk=>(Z9 k hk).imp id (fun e=>by simpa using e)⟩
            go_wp2_with fail
            exact ⟨⟨n+1,vw4,by simp,hlt,G1,G2,G3⟩,hms.out⟩
           ·subst e22;have hst:Hid (Ckr.hstate E.m s true ⟨lo,hi_,kg,cl⟩=⟨s.slots,[⟨3,cl⟩],false⟩):=hgv.out.trans (by rw [if_pos rfl])
            clear hgv;have ly:=cell_lt y1
            go_wp2_with (go_at_call 168;refine (ref _ _).mono ?_;rintro e w10 ⟨rfl,hb10⟩;have hs10:=hb10.size;have hbh10:Below wr.heap.size wr w10:=hbh.trans (hb10.mono hbh.size);replace r0:=kept hb10 (cell_lt r0) r0;replace p2:=kept hb10 (cell_lt p2) p2;replace f1:=keptf hb10 ly f1;replace y0:=kept hb10 ly y0;replace y1:=kept hb10 ly y1;replace y2:=kept hb10 ly y2;have ly10:=cell_lt y1;have lc10:=cell_lt r0;have lp10:=cell_lt p2)
            have n1':¬ wr.heap.size+1=E.cb:=by omega
            have n2':¬ E.cb=wr.heap.size+1:=by omega
            obtain ⟨W6,hW6⟩:∃ W6,W6=(w10.setCell ⟨wr.heap.size+1,1,none⟩ (.slice (some ⟨w10.heap.size,0,none⟩) 1 1)).alloc (.cells #[.int .i64 3,.int .i64 cl] 51):=⟨_,rfl⟩;have hsw10:=hbh10.size;replace hbh:Below wr.heap.size wr W6:=by rw [hW6];exact Below.alloc (Below.setCell hbh10 (by show wr.heap.size≤wr.heap.size+1;omega) _) (by simp;omega) _
            replace r0:W6.cell? ⟨E.cb,0,none⟩=some (.pointer (some ⟨E.fb,0,none⟩)):=by rw [hW6];go_simp
            replace p2:W6.cell? ⟨wr.heap.size,2,none⟩=some (.int .i64 kg):=by rw [hW6];go_simp
            replace y0:W6.cell? ⟨wr.heap.size+1,0,none⟩=some (.slice c1 s.slots.length n1):=by rw [hW6];go_simp
            replace y1:W6.cell? ⟨wr.heap.size+1,1,none⟩=some (.slice (some ⟨w10.heap.size,0,none⟩) 1 1):=by rw [hW6];go_simp
            replace y2:W6.cell? ⟨wr.heap.size+1,2,none⟩=some (.bool false):=by rw [hW6];go_simp
            have z0:W6.cell? ⟨w10.heap.size,0,none⟩=some (.int .i64 3):=by rw [hW6];go_simp
            have z1:W6.cell? ⟨w10.heap.size,1,none⟩=some (.int .i64 cl):=by rw [hW6];go_simp
            have nz:¬ zone E vw2 w10.heap.size:=fun h=>by have:=zfh.out _ h;omega
            have TT:Hid (TS W6 (zone E vw2) (.slice (some ⟨w10.heap.size,0,none⟩) 1 1) [⟨3,cl⟩]):=ts_one nz z0 z1 (tok 3 cl (by unfold Ok;omega) okcl)
            replace FH:=Lib.hid (FM.out.below hbh);replace KH:=Lib.hid (kpb KM.out hbh);rw [← hW6];clear hW6 z0 z1 nz n1' n2' hsw10 hbh10 hs10 f1 p3 ly ly10 lc10 lp10
            go_wp2_with fail
            go_still_tail 7,(by kernel_rfl)
            go_wp2_with fail
            refine (lead (FH.out.below (w':=W6.drew) (by exact Rd.byB)) hm LO.out (v:=.agg #[.slice c1 s.slots.length n1,.slice (some ⟨w10.heap.size,0,none⟩) 1 1,.bool false]) (s:=⟨s.slots,[⟨3,cl⟩],false⟩) ⟨_,_,rfl,S1.out.next (X':=zone E vw2) (KH.out.drew) (fun _ _ e=>e) hzv.out,TT.out.below (X':=zone E vw2) (by exact Rd.byB) (fun _ _ e=>e)⟩ (by rw [hst.out] at SH;exact SH.out) hn1000.out (by decide) kg hwl.out).mono ?_
            rintro e w9 ⟨rfl,vw3,F9,K9,Z9⟩;rw [← hst.out] at F9;obtain ⟨vw4,G1,G2,G3⟩:=hend.out W6 w9 hbh ⟨vw3,F9,(Kp.drew (Kp.refl (zone E vw2) W6)).trans K9 (fun y h=>.inl h),fun k hk=>(Z9 k hk).imp id (fun e=>by simpa using e)⟩
            go_wp2_with fail
            exact ⟨⟨n+1,vw4,by simp,hlt,G1,G2,G3⟩,hms.out⟩
        ·obtain rfl:n=E.m.handlers.length:=by omega
         go_wp2
         first | go_end0 | ((try simp only [Exit.inBlock,Exit.then]);refine bodyPost_ret (results_none rfl _ _ _) rfl ?_)
         rw [hfin.out];exact ⟨rfl,vw2,FM.out,KM.out,ZM.out⟩
set_option maxRecDepth 100000 in
theorem oneB (F:Fw E w vw R) (S:Run.FiR E.f) (hmem:E.m∈E.f.methods) (hR:RunOk E.f.classes.length E.m.regs.toNat 1 E.m.code.length R) (hv:VSt w (zone E vw) v s) (os:StOk E.f.classes.length E.m.regs.toNat 1 s) (a:Nat) (ha:a < E.m.code.length) (hme:meas E.m.regs.toNat 1 R≤10000000) (hbr:s.broken=true) :
  Calls Try.prog 113 #[.pointer (some ⟨E.cb,0,none⟩),.int .i64 a,v] w (LeadR E vw w (leads E.f.classes ⟨R.states,R.work,R.bad || !(Ckr.one E.f E.m a s).1⟩ (Ckr.one E.f E.m a s).2)):=by
 have MM:=S.mes E.m hmem;have hm:=S.may;have hcl:=MM.code;have hlc:=MM.regs;have hn1000:Hid (E.m.regs.toNat≤1000):=Lib.hid (by omega)
 have hI:=Chk.insAt_mem ha;have hi:=Ckr.sd_of S MM (MM.ins _ hI.1);have HV:=Lib.hid hv;have HF:=Lib.hid F;have HR:=Lib.hid hR;have OS:=Lib.hid os;have HME:=Lib.hid hme;obtain ⟨x,y,rfl,t1,t2⟩:=hv;obtain ⟨c1,n1,rfl,_⟩:=t1.len;obtain ⟨c2,n2,rfl,_⟩:=t2.len;have S1:=Lib.hid t1;clear t1 t2;have zl:=zlt F;have hck:=F.ck;have k9:=(hck 9 (by simp [ccells,meV])).1
 have k10:=(hck 10 (by simp [ccells,meV])).1
 have k2:=(hck 2 (by simp [ccells,meV])).1
 have k0:=(hck 0 (by simp [ccells,meV])).1
 have k11:=(hck 11 (by simp [ccells,meV])).1
 have z11:=(hck 11 (by simp [ccells,meV])).2
 simp [ccells,meV] at k9 k10 k2 k0 k11;have lcb:=cell_lt k9;have lcb1:E.cb < w.heap.size+1:=by omega
 have lcb2:E.cb < w.heap.size+1+1:=by omega
 obtain ⟨da,dcap,evd,q1,q2,hel⟩:=F.code;obtain ⟨db,dof,rfl,hdb,i0,i1,i2,i3,i4,oki,va,i5,hva⟩:=hel a ha;have HVA:=Lib.hid hva;obtain ⟨aa,acap,rfl,_⟩:=hva;have eI:Chk.insAt E.m a=E.m.code[a]:=by unfold Chk.insAt;rw [List.getD_eq_getElem?_getD,List.getElem?_eq_getElem ha];rfl
 rw [← eI] at i0 i1 i2 i3 i4 i5 oki HVA;rw [evd] at k9;obtain ⟨ha0,hacap,evh,hq1,hq2,heh⟩:=F.hands;rw [evh] at k10;obtain ⟨mea,mecap,evm,_⟩:=F.mes;rw [evm] at k2;have hbase:=F.base;have ldb:db < w.heap.size:=by omega
 have ldb1:db < w.heap.size+1:=by omega
 have ha2:(a:Int) < E.m.code.length:=by omega
 obtain ⟨ins,hins⟩:∃ ins,Hid (Chk.insAt E.m a=ins):=⟨_,Lib.hid rfl⟩;obtain ⟨nx,hnx⟩:∃ nx,Hid (Ckr.nexts ins a=nx):=⟨_,Lib.hid rfl⟩;obtain ⟨og,hog⟩:∃ og,Hid (Ckr.goes E.f E.m a s=og):=⟨_,Lib.hid rfl⟩;obtain ⟨od,hod0⟩:∃ od:Option State,Hid (od=none):=⟨_,Lib.hid rfl⟩
 have hgo:Hid (og=od.bind fun s'=>if nx.all (fun k=>decide (k < E.m.code.length))=true then some ⟨s'.slots,[],false⟩ else none):=by
  show _=_
  rw [← hog.out,hod0.out];unfold Ckr.goes;rw [if_pos hbr];rfl
 have hnl:Hid (∀ g,og=some g→∀ k∈nx,k < E.m.code.length):=fun g e k hk=>by
  have e2:=hog.out.trans e;exact (Ckr.goes_some e2).2.2 k (by rw [hins.out,hnx.out];exact hk)
 rw [hins.out] at i0 i1 i2 i3 i4 i5 oki hi HVA
 have hone:Hid (Ckr.one E.f E.m a s=(og.isSome,pairs2 E.f E.m ins og nx++(E.m.handlers.filter fun h=>Chk.covers h a).map fun h=>(h.go.toNat,Ckr.hstate E.m s og.isSome h))):=by
  show _=_
  unfold Ckr.one;rw [hog.out,hins.out,hnx.out];rfl
 have hno:∀ p∈(Ckr.one E.f E.m a s).2,StOk E.f.classes.length E.m.regs.toNat 1 p.2:=Ckr.one_ok S hmem a s os;rw [hone.out] at hno ⊢;replace hno:=Lib.hid hno;simp only
 generalize hres:leads E.f.classes ⟨R.states,R.work,R.bad || !og.isSome⟩ (pairs2 E.f E.m ins og nx++(E.m.handlers.filter fun h=>Chk.covers h a).map fun h=>(h.go.toNat,Ckr.hstate E.m s og.isSome h))=RES
 replace hres:=Lib.hid hres;obtain ⟨op,ia,ib,ic,in_,iargs⟩:=ins;simp only at i0 i1 i2 i3 i4 i5 oki HVA;have hjmp:=hi.jmp;simp only at hjmp;have hopr:=hi.op;simp only at hopr;clear hck hel heh F hR os hme;replace hbr:=Lib.hid hbr
 go_enter Try.func113,Try.ntmps113
 go_wp2_with fail
 have hw1:Below w.heap.size w ((w.alloc (.cells #[.slice c1 s.slots.length n1,.slice c2 s.stack.length n2,.bool s.broken] 157)).alloc (.cells #[.int .i64 op,.int .i64 ia,.int .i64 ib,.int .i64 ic,.int .i64 in_,.slice aa iargs.length acap] 63)):=Rd.byB;have HL:=Lib.hid (stok_len OS.out (by omega) (by omega))
 refine (clone (HV.out.below (X':=fun _=>False) (by exact Rd.byB) (fun _ _ e=>e.elim)) HL.out.1 HL.out.2).mono ?_
 rintro e w2 ⟨vs,vk,rfl,R1,R2,N12,hb2⟩;obtain ⟨g1,d1,rfl⟩:=R1.any;obtain ⟨g2,d2,rfl⟩:=R2.any;replace R1:=Lib.hid R1;replace R2:=Lib.hid R2;replace N12:=Lib.hid N12
 go_upto_region 4 with (fail)
 obtain ⟨W3,hW3⟩:∃ W3,W3=w2.alloc (.cells #[.pointer (some ⟨E.cb,0,none⟩),.slice g1 s.slots.length d1,.slice g2 s.stack.length d2,.bool s.broken] 260):=⟨_,rfl⟩;obtain ⟨mb,hmb⟩:∃ mb,mb=w2.heap.size:=⟨_,rfl⟩;have hs2:=hb2.size;simp at hs2;have hal:Below w2.heap.size w2 W3:=by rw [hW3];exact Rd.byB
 have hb2w:Below w.heap.size w w2:=hw1.trans (hb2.mono (by simp <;> omega))
 have hb3w:Below w.heap.size w W3:=hb2w.trans (hal.mono (by omega))
 have hbx:∀ k (x:Value),((w.alloc (.cells #[.slice c1 s.slots.length n1,.slice c2 s.stack.length n2,.bool s.broken] 157)).alloc (.cells #[.int .i64 op,.int .i64 ia,.int .i64 ib,.int .i64 ic,.int .i64 in_,.slice aa iargs.length acap] 63)).cell? ⟨w.heap.size+1,k,none⟩=some x→W3.cell? ⟨w.heap.size+1,k,none⟩=some x:=fun k x h=>kept hal (by omega) (kept hb2 (by simp) h)
 have x0:=hbx 0 (.int .i64 op) (by go_simp)
 have x1:=hbx 1 (.int .i64 ia) (by go_simp)
 have x2:=hbx 2 (.int .i64 ib) (by go_simp)
 have x3:=hbx 3 (.int .i64 ic) (by go_simp)
 have x4:=hbx 4 (.int .i64 in_) (by go_simp)
 have x5:=hbx 5 (.slice aa iargs.length acap) (by go_simp)
 have u2:W3.cell? ⟨w.heap.size,2,none⟩=some (.bool s.broken):=kept hal (by omega) (kept hb2 (by simp <;> omega) (by go_simp))
 have R1L:∀ g,(Value.slice g1 s.slots.length d1).ownBlock=some g→w.heap.size+2≤g∧g < mb:=fun g hg=>by have:=R1.out.lt hg;simp at this;omega
 have R2L:∀ g,(Value.slice g2 s.stack.length d2).ownBlock=some g→w.heap.size+2≤g∧g < mb:=fun g hg=>by have:=R2.out.lt hg;simp at this;omega
 have F3:=HF.out.below hb3w;have hmbw:w.heap.size+2≤mb:=by omega
 have MX4:∃ x y z u,Blk W3 mb [x,y,z,u]:=by
  refine ⟨.pointer (some ⟨E.cb,0,none⟩),.slice g1 s.slots.length d1,.slice g2 s.stack.length d2,.bool s.broken,?_⟩;rw [hmb,hW3];exact Blk.made w2 [.pointer (some ⟨E.cb,0,none⟩),.slice g1 s.slots.length d1,.slice g2 s.stack.length d2,.bool s.broken] _
 have MN4:Hid (MN E w.heap.size mb (W3.setCell ⟨mb,2,none⟩ (.slice none 0 0)) od):=by
  show MN _ _ _ _ _
  rw [hod0.out];exact MN.of0 MX4
 rw [← hW3,← hmb];clear hW3 hbx hal hb2 R1 R2 N12 R1L R2L F3 hb2w hw1 hmb i0 i1 i2 i3 i4 i5;obtain ⟨w4,rfl⟩:∃ w4:World,w4=W3:=⟨_,rfl⟩;have hb4w:=hb3w;obtain ⟨p0,hp0⟩:∃ p,Hid (od.isSome=p):=⟨_,Lib.hid rfl⟩;have hpf:p0=false:=by rw [← hp0.out,hod0.out];rfl
 have hbr':=hbr.out;obtain ⟨mx,my,mz,mu,mB⟩:=MX4;have m0:=(mB 0 (by simp)).1
 have m2:=(mB 2 (by simp)).1
 have e2:=(mB 2 (by simp)).2
 simp only [List.getElem_cons_zero,List.getElem_cons_succ] at m0 m2;have lmb4:=cell_lt m0;clear mB
 go_upto_region 6 with (fail)
 obtain ⟨W5,hW5⟩:∃ W5,W5=w4.setCell ⟨mb,2,none⟩ (.slice none 0 0):=⟨_,rfl⟩;have nim:¬ w.heap.size+1=mb:=by omega
 have nmi:¬ mb=w.heap.size+1:=by omega
 replace x0:W5.cell? ⟨w.heap.size+1,0,none⟩=some (.int .i64 op):=by rw [hW5];go_simp
 replace x1:W5.cell? ⟨w.heap.size+1,1,none⟩=some (.int .i64 ia):=by rw [hW5];go_simp
 replace x2:W5.cell? ⟨w.heap.size+1,2,none⟩=some (.int .i64 ib):=by rw [hW5];go_simp
 replace x3:W5.cell? ⟨w.heap.size+1,3,none⟩=some (.int .i64 ic):=by rw [hW5];go_simp
 replace x4:W5.cell? ⟨w.heap.size+1,4,none⟩=some (.int .i64 in_):=by rw [hW5];go_simp
 replace x5:W5.cell? ⟨w.heap.size+1,5,none⟩=some (.slice aa iargs.length acap):=by rw [hW5];go_simp
 have hb5w':Below w.heap.size w W5:=by rw [hW5];exact hb4w.setCell (p:=⟨mb,2,none⟩) (by show w.heap.size≤mb;omega) _
 rw [← hW5] at MN4 ⊢;clear hW5 m0 m2 e2 lmb4 hb4w hb3w;have hszw4:=hb5w'.size;have j9:=kept hb5w' lcb k9;have j10:=kept hb5w' lcb k10;have j2:=kept hb5w' lcb k2;have j0:=kept hb5w' lcb k0;have j11:=kept hb5w' lcb k11;have y11:=keptf hb5w' lcb z11;clear k9 k10 k2 k0 k11 z11;have lw4:=cell_lt x0;have lcb4:=cell_lt j9;replace lcb:=Lib.hid lcb;clear lcb1 lcb2
 go_wp2_with (go_at_call 167;refine (nexts op ia ib ic in_ iargs aa iargs.length acap a (by omega) (fun h=>(hjmp h).1)).mono ?_;rintro e w5 ⟨v1,rfl,N1,hb5⟩;rw [hnx.out] at N1;obtain ⟨na,ncap,rfl,nq1,nq2,hn1⟩:=N1;replace hn1:=Lib.hid hn1)
 have hb5w:Below w.heap.size w w5:=hb5w'.trans (hb5.mono hszw4);have hszw5:=hb5w.size;have hs5:=hb5.size;replace j9:=kept hb5 lcb4 j9;replace j10:=kept hb5 lcb4 j10;replace j2:=kept hb5 lcb4 j2;replace j0:=kept hb5 lcb4 j0;replace j11:=kept hb5 lcb4 j11;replace y11:=keptf hb5 lcb4 y11;replace x0:=kept hb5 lw4 x0;replace x1:=kept hb5 lw4 x1;replace x2:=kept hb5 lw4 x2;replace x3:=kept hb5 lw4 x3;replace x4:=kept hb5 lw4 x4;replace x5:=kept hb5 lw4 x5;replace MN4:=Lib.hid (MN4.out.below hb5);subst hpf
 go_loopw [9,49] (fun b c wr=>∃ (n:Nat) (p:Bool),c=.int .i64 n∧b=.bool p∧n≤nx.length∧wr=w5∧Hid (p=(false && (nx.take n).all fun k=>decide (k < E.m.code.length)))) (fun _ c _=>nx.length - (intOf c).toNat)
 case atStart=>exact ⟨0,false,rfl,rfl,Nat.zero_le _,rfl,Lib.hid (by simp)⟩
 case round =>
  obtain ⟨n,p,rfl,rfl,hn,rfl,hp⟩:=hrel
  by_cases hlt:n < nx.length
  ·obtain ⟨nb,rfl,hnb,ce⟩:=hn1.out n hlt;obtain ⟨k,hk⟩:∃ k,Hid (nx.getD n 0=k):=⟨_,Lib.hid rfl⟩;rw [hk.out] at ce;have i9:(n:Int) < nx.length:=by omega
   cases p
   ·go_wp2
    refine ⟨⟨n+1,false,by simp,by first | rfl | trivial,hlt,by first | rfl | trivial,Lib.hid ?_⟩,by simp only [intOf];omega⟩
    rw [all_take hlt,← Bool.and_assoc,← hp.out];rfl
   ·by_cases hkl:k < E.m.code.length
    ·have i8:(k:Int) < E.m.code.length:=by omega
     go_wp2
     refine ⟨⟨n+1,true,by simp,by first | rfl | trivial,hlt,by first | rfl | trivial,Lib.hid ?_⟩,by simp only [intOf];omega⟩
     rw [all_take hlt,← Bool.and_assoc,← hp.out,hk.out];simp [hkl]
    ·have i8:¬ (k:Int) < E.m.code.length:=by omega
     go_wp2
     refine ⟨⟨n+1,false,by simp,by first | rfl | trivial,hlt,by first | rfl | trivial,Lib.hid ?_⟩,by simp only [intOf];omega⟩
     rw [all_take hlt,← Bool.and_assoc,← hp.out,hk.out];simp [hkl]
  ·obtain rfl:n=nx.length:=by omega
   have hpg:p=og.isSome:=by rw [hp.out,List.take_of_length_le (Nat.le_refl _),← hp0.out];exact pg_eq hgo.out
   subst hpg
   have hod2:Hid (∀ g,og=some g→∃ t,od=some t∧g=⟨t.slots,[],false⟩):=fun g e=>by
    have h:=hgo.out;rw [e] at h
    cases od with
    | none=>simp at h
    | some s' =>
     simp only [Option.bind_some] at h
     split at h
     ·injection h with h;exact ⟨s',rfl,h⟩
     ·cases h
   clear hp hgo hp0 hn1 hlt hn;obtain ⟨mx,my,mu,mB⟩:=MN4.out.ex;have m0:=(mB 0 (by simp)).1
   have m1:=(mB 1 (by simp)).1
   have m2:=(mB 2 (by simp)).1
   have m3:=(mB 3 (by simp)).1
   have e1:=(mB 1 (by simp)).2
   have e2:=(mB 2 (by simp)).2
   have e3:=(mB 3 (by simp)).2
   simp only [List.getElem_cons_zero,List.getElem_cons_succ] at m0 m1 m2 m3;clear mB;have ncm:¬ E.cb=mb:=by have:=lcb.out;omega
   have nmc:¬ mb=E.cb:=by have:=lcb.out;omega
   have nic:¬ w.heap.size+1=E.cb:=by have:=lcb.out;omega
   have nci:¬ E.cb=w.heap.size+1:=by have:=lcb.out;omega
   cases og with
   | none =>
    as_aux_lemma =>
     simp only [Option.isSome_none,Bool.not_false,Bool.or_true] at hres hno hone ⊢
     go_upto_region 14 with (fail)
     obtain ⟨W7,hW7⟩:∃ W7,W7=(((wr.setCell ⟨E.cb,11,none⟩ (.bool true)).setCell ⟨mb,1,none⟩ (.slice none 0 0)).setCell ⟨mb,2,none⟩ (.slice none 0 0)).setCell ⟨mb,3,none⟩ (.bool true):=⟨_,rfl⟩;have FB:=HF.out.bad true
     have hbz:Below w.heap.size (w.setCell ⟨E.cb,11,none⟩ (.bool true)) W7:=by
      rw [hW7];exact (((below_setCell2 hb5w ⟨E.cb,11,none⟩ (.bool true)).setCell (p:=⟨mb,1,none⟩) (by show w.heap.size≤mb;omega) _).setCell (p:=⟨mb,2,none⟩) (by show w.heap.size≤mb;omega) _).setCell (p:=⟨mb,3,none⟩) (by show w.heap.size≤mb;omega) _
     have hbz':Below (w.setCell ⟨E.cb,11,none⟩ (.bool true)).heap.size (w.setCell ⟨E.cb,11,none⟩ (.bool true)) W7:=by simpa [World.setCell] using hbz
     have F7:=Lib.hid (FB.1.below hbz');have K7:=Lib.hid (kpb FB.2 hbz');replace m1:W7.cell? ⟨mb,1,none⟩=some (.slice none 0 0):=by rw [hW7];go_simp
     replace m2:W7.cell? ⟨mb,2,none⟩=some (.slice none 0 0):=by rw [hW7];go_simp
     replace m3:W7.cell? ⟨mb,3,none⟩=some (.bool true):=by rw [hW7];go_simp
     replace x0:W7.cell? ⟨w.heap.size+1,0,none⟩=some (.int .i64 op):=by rw [hW7];go_simp
     replace x1:W7.cell? ⟨w.heap.size+1,1,none⟩=some (.int .i64 ia):=by rw [hW7];go_simp
     replace x2:W7.cell? ⟨w.heap.size+1,2,none⟩=some (.int .i64 ib):=by rw [hW7];go_simp
     replace x3:W7.cell? ⟨w.heap.size+1,3,none⟩=some (.int .i64 ic):=by rw [hW7];go_simp
     replace x4:W7.cell? ⟨w.heap.size+1,4,none⟩=some (.int .i64 in_):=by rw [hW7];go_simp
     replace x5:W7.cell? ⟨w.heap.size+1,5,none⟩=some (.slice aa iargs.length acap):=by rw [hW7];go_simp
     have hszw7:w.heap.size≤W7.heap.size:=K7.out.size;rw [← hW7];clear hW7 hbz hbz' FB m0 e1 e2 e3 j9 j10 j2 j0 j11 y11 MN4 hb5 hb5w hb5w' hszw5 hs5;have HR7:=Lib.hid (runOk_bad (b:=true) HR.out);have hsg:Hid (∀ k∈nx,StOk E.f.classes.length E.m.regs.toNat 1 (Ckr.nstate E.f E.m ⟨op,ia,ib,ic,in_,iargs⟩ none k)):=fun k hk=>hno.out (k,Ckr.nstate E.f E.m ⟨op,ia,ib,ic,in_,iargs⟩ none k) (List.mem_append.2 (.inl (List.mem_map.2 ⟨k,hk,rfl⟩)));have lw7:=cell_lt x0;have lm7:=cell_lt m1
     go_wp2_with (go_at_call 167;refine (nexts op ia ib ic in_ iargs aa iargs.length acap a (by omega) (fun h=>(hjmp h).1)).mono ?_;rintro e w8 ⟨v2,rfl,N2,hb8⟩;rw [hnx.out] at N2;obtain ⟨nb,ncap2,rfl,nq3,nq4,hn2⟩:=N2;replace hn2:=Lib.hid hn2)
     have F8:=Lib.hid (F7.out.below hb8);have hs8:=hb8.size;replace m1:=kept hb8 lm7 m1;replace m2:=kept hb8 lm7 m2;replace m3:=kept hb8 lm7 m3;replace x0:=kept hb8 lw7 x0;replace x1:=kept hb8 lw7 x1;have K8:=Lib.hid (kpb K7.out hb8);have zmb:¬ zone E vw mb:=fun h=>by have:=zl mb h;omega
     have zib:¬ zone E vw (w.heap.size+1):=fun h=>by have:=zl _ h;omega
     clear F7 K7 x2 x3 x4 x5
     go_loopw [78] (fun c wr=>∃ (n:Nat) (vw1:Value),c=.int .i64 n∧n≤nx.length∧Hid (Fw E wr vw1 (leads E.f.classes ⟨R.states,R.work,true⟩ (pairs2 E.f E.m ⟨op,ia,ib,ic,in_,iargs⟩ none (nx.take n))))∧Hid (Kp (zone E vw) w8 wr)∧Hid (∀ k,zone E vw1 k→zone E vw k∨w8.heap.size≤k)) (fun c _=>nx.length - (intOf c).toNat)
     case atStart=>exact ⟨0,vw,rfl,Nat.zero_le _,F8,Lib.hid (Kp.refl _ _),Lib.hid (fun k h=>.inl h)⟩
     case round =>
      obtain ⟨n,vw1,rfl,hn,FN,KN,ZN⟩:=hrel
      by_cases hlt:n < nx.length
      ·obtain ⟨nbb,rfl,hnb,ce⟩:=hn2.out n hlt;obtain ⟨k,hk⟩:∃ k,Hid (nx.getD n 0=k):=⟨_,Lib.hid rfl⟩;have hmk:k∈nx:=by rw [← hk.out,List.getD_eq_getElem?_getD,List.getElem?_eq_getElem hlt];exact List.getElem_mem hlt
       rw [hk.out] at ce;have i9:(n:Int) < nx.length:=by omega
       have znb:¬ zone E vw nbb:=fun h=>by have:=zl nbb h;omega
       replace ce:=KN.out.cell ce znb;have r1:=KN.out.cell m1 zmb;have r2:=KN.out.cell m2 zmb;have r3:=KN.out.cell m3 zmb;have u0:=KN.out.cell x0 zib;have u1:=KN.out.cell x1 zib;have hck:=FN.out.ck;have r0:=(hck 0 (by simp [ccells,meV])).1
       have r9:=(hck 9 (by simp [ccells,meV])).1
       have rm:=(hck 2 (by simp [ccells,meV])).1
       simp [ccells,meV] at r0 r9 rm;rw [evd] at r9;rw [evm] at rm;have lcbr:=cell_lt r0;have lib:=cell_lt u0;have lmbr:=cell_lt r1;have SG:=hsg.out k hmk;have hzw:Hid (∀ b,b < w8.heap.size→zone E vw1 b→zone E vw b):=fun b hb e=>(ZN.out b e).elim id (fun h=>by omega)
       have hms:Hid (nx.length - (n+1) < nx.length - n):=Lib.hid (by omega)
       have LO:=leads_ok hm (pairs2 E.f E.m ⟨op,ia,ib,ic,in_,iargs⟩ none (nx.take n)) HR7.out (fun p hp=>by obtain ⟨j,hj,rfl⟩:=List.mem_map.1 hp;exact hsg.out j (List.take_subset _ _ hj))
       have hwl:(leads E.f.classes ⟨R.states,R.work,true⟩ (pairs2 E.f E.m ⟨op,ia,ib,ic,in_,iargs⟩ none (nx.take n))).work.length≤100000000:=by
        have h1:=work_le E.m.regs.toNat 1 (leads E.f.classes ⟨R.states,R.work,true⟩ (pairs2 E.f E.m ⟨op,ia,ib,ic,in_,iargs⟩ none (nx.take n)));have h2:=LO.2.1;have h3:=HME.out;have h4:meas E.m.regs.toNat 1 (⟨R.states,R.work,true⟩:Flow.Run)=meas E.m.regs.toNat 1 R:=rfl;omega
       replace LO:=Lib.hid LO.1;replace hwl:=Lib.hid hwl;clear hck
       have hend:Hid (∀ (W W9:World) (vw2:Value),Below wr.heap.size wr W→Fw E W9 vw2 (Flow.lead E.f.classes (leads E.f.classes ⟨R.states,R.work,true⟩ (pairs2 E.f E.m ⟨op,ia,ib,ic,in_,iargs⟩ none (nx.take n))) k (Ckr.nstate E.f E.m ⟨op,ia,ib,ic,in_,iargs⟩ none k))→Kp (zone E vw1) W W9→(∀ j,zone E vw2 j→zone E vw1 j∨W.heap.size≤j)→Hid (Fw E W9 vw2 (leads E.f.classes ⟨R.states,R.work,true⟩ (pairs2 E.f E.m ⟨op,ia,ib,ic,in_,iargs⟩ none (nx.take (n+1)))))∧Hid (Kp (zone E vw) w8 W9)∧Hid (∀ j,zone E vw2 j→zone E vw j∨w8.heap.size≤j)):=fun W W9 vw2 hW F9 K9 Z9 =>
        ⟨by rw [pairs2_take hlt,leads_snoc,hk.out];exact F9,(kpb KN.out hW).trans K9 ZN.out,fun j hj=>(Z9 j hj).elim (ZN.out j) (fun e=>.inr (Nat.le_trans (Nat.le_trans KN.out.size hW.size) e))⟩
       go_upto_region 18 with (fail)
       obtain ⟨W2,hW2⟩:∃ W2,W2=wr.alloc (.cells #[.slice none 0 0,.slice none 0 0,.bool true] 157):=⟨_,rfl⟩;have hb2:Below wr.heap.size wr W2:=by rw [hW2];exact Rd.byB
       have hsW2:W2.heap.size=wr.heap.size+1:=by rw [hW2];simp
       have y0:W2.cell? ⟨wr.heap.size,0,none⟩=some (.slice none 0 0):=by rw [hW2];go_simp
       have y1:W2.cell? ⟨wr.heap.size,1,none⟩=some (.slice none 0 0):=by rw [hW2];go_simp
       have y2:W2.cell? ⟨wr.heap.size,2,none⟩=some (.bool true):=by rw [hW2];go_simp
       have f1:W2.frozen? ⟨wr.heap.size,1,none⟩=false:=by rw [hW2];go_simp
       replace r0:=kept hb2 lcbr r0;replace r9:=kept hb2 lcbr r9;replace rm:=kept hb2 lcbr rm;replace u0:=kept hb2 lib u0;replace u1:=kept hb2 lib u1;have FW:=Lib.hid (FN.out.below hb2);rw [← hW2];clear hW2 r1 r2 r3;have hns:Hid (Ckr.nstate E.f E.m ⟨op,ia,ib,ic,in_,iargs⟩ none k=State.bad):=Lib.hid rfl;refine Drawn.hd (fun w'=>w'.cell? ⟨E.cb,0,none⟩=some (.pointer (some ⟨E.fb,0,none⟩))) (hS:=by (try dsimp only);exact r0) (h:=fun hHeld=>?_)
       refine dT 0 86 ?_;refine dT 1 87 ?_;refine dS 2 88 ?_;refine dS 3 89 ?_;refine dS 4 90 ?_;refine dT 5 91 ?_;refine dT 6 92 ?_;refine dS 7 93 ?_;refine dS 8 94 ?_;refine dS 9 95 ?_;refine dS 10 96 ?_;refine dS 11 97 ?_;refine dS 12 98 ?_;refine dS 13 99 ?_;refine dS 14 100 ?_;refine dS 15 101 ?_;refine dS 16 102 ?_;refine dT 17 103 ?_;refine dT 18 104 ?_;refine dS 19 105 ?_;refine dS 20 106 ?_;refine dS 21 107 ?_;refine dS 22 108 ?_;refine dS 23 109 ?_;refine dS 24 110 ?_;refine dS 25 111 ?_;refine dS 26 112 ?_;refine dS 27 113 ?_;refine dS 28 114 ?_;refine dS 29 115 ?_;refine dS 30 116 ?_;refine dT 31 117 ?_;refine dN ?_
       go_wp2_with fail
       obtain ⟨W3,hW3⟩:∃ W3,W3=W2.drew:=⟨_,rfl⟩;have hb3:Below W2.heap.size W2 W3:=by rw [hW3];exact Rd.byB
       have hb23:Below wr.heap.size wr W3:=hb2.trans (hb3.mono hb2.size);replace f1:=keptf hb3 (cell_lt y1) f1;replace r0:=kept hb3 (cell_lt r0) r0;replace y0:=kept hb3 (cell_lt y0) y0;replace y1:=kept hb3 (cell_lt y1) y1;replace y2:=kept hb3 (cell_lt y2) y2;replace FW:=Lib.hid (FW.out.below hb3);have KW:=Lib.hid (kpb KN.out hb23);rw [← hW3];clear hW3
       go_still_tail 6,(by kernel_rfl)
       go_wp2_with fail
       refine (lead (FW.out.below (w':=W3.drew) (by exact Rd.byB)) hm LO.out (v:=.agg #[.slice none 0 0,.slice none 0 0,.bool true]) (s:=State.bad) ⟨_,_,rfl,TS.nil _ _,TS.nil _ _⟩ (by rw [hns.out] at SG;exact SG) hn1000.out (by decide) k hwl.out).mono ?_
       rintro e w9 ⟨rfl,vw2,F9,K9,Z9⟩;obtain ⟨P1,P2,P3⟩:=hend.out W3 w9 vw2 hb23 (by rw [hns.out];exact F9) ((Kp.drew (Kp.refl (zone E vw1) W3)).trans K9 (fun y h=>.inl h)) (fun j hj=>(Z9 j hj).imp id (fun e=>by simpa using e))
       go_wp2_with fail
       exact ⟨⟨n+1,vw2,by simp,hlt,P1,P2,P3⟩,hms.out⟩
      ·obtain rfl:n=nx.length:=by omega
       obtain ⟨wo,rfl⟩:∃ wo:World,wo=wr:=⟨_,rfl⟩;have LO9:=leads_ok hm (pairs2 E.f E.m ⟨op,ia,ib,ic,in_,iargs⟩ none (nx.take nx.length)) HR7.out (fun p hp=>by obtain ⟨x,hx,rfl⟩:=List.mem_map.1 hp;exact hsg.out x (List.take_subset _ _ hx))
       have hm9:meas E.m.regs.toNat 1 (leads E.f.classes ⟨R.states,R.work,true⟩ (pairs2 E.f E.m ⟨op,ia,ib,ic,in_,iargs⟩ none (nx.take nx.length)))≤10000000:=by
        have h2:=LO9.2.1;have h3:=HME.out;have h4:meas E.m.regs.toNat 1 (⟨R.states,R.work,true⟩:Flow.Run)=meas E.m.regs.toNat 1 R:=rfl;omega
       replace LO9:=Lib.hid LO9.1;replace hm9:=Lib.hid hm9
       have hfin:Hid (RES=leads E.f.classes (leads E.f.classes ⟨R.states,R.work,true⟩ (pairs2 E.f E.m ⟨op,ia,ib,ic,in_,iargs⟩ none (nx.take nx.length))) (hls E.m s false a E.m.handlers.length)):=by
        show _=_
        rw [← hres.out,List.take_length,hls_all,leads_app]
       generalize (leads E.f.classes ⟨R.states,R.work,true⟩ (pairs2 E.f E.m ⟨op,ia,ib,ic,in_,iargs⟩ none (nx.take nx.length)))=R9 at LO9 hm9 hfin FN
       have hno2:Hid (∀ n,∀ p∈hls E.m s false a n,StOk E.f.classes.length E.m.regs.toNat 1 p.2):=fun n p hp=>hno.out p (List.mem_append.2 (.inr (hls_sub p hp)));have Kw:=Lib.hid (K8.out.trans KN.out (fun y h=>.inl h));have Zw:Hid (∀ k,zone E vw1 k→zone E vw k∨w.heap.size≤k):=fun k hk=>(ZN.out k hk).imp id (fun e=>Nat.le_trans (Nat.le_trans hszw7 hs8) e);have r10:=(FN.out.ck 10 (by simp [ccells,meV])).1
       simp [ccells,meV] at r10;rw [evh] at r10;have lcbo:=cell_lt r10;clear KN ZN K8 hlt hn hn2 m1 m2 m3 x0 x1 hsg HR7 hno hres hi hjmp hopr
       go_wp2_with fail
       go_loopw [144] (fun c wr=>∃ (n:Nat) (vw2:Value),c=.int .i64 n∧n≤E.m.handlers.length∧Hid (Fw E wr vw2 (leads E.f.classes R9 (hls E.m s false a n)))∧Hid (Kp (zone E vw) w wr)∧Hid (∀ k,zone E vw2 k→zone E vw k∨w.heap.size≤k)) (fun c _=>E.m.handlers.length - (intOf c).toNat)
       case atStart=>exact ⟨0,vw1,rfl,Nat.zero_le _,FN,Kw,Zw⟩
       case round =>
        obtain ⟨n,vw2,rfl,hn,FM,KM,ZM⟩:=hrel
        by_cases hlt:n < E.m.handlers.length
        ·obtain ⟨hx,hxc,evh2,_,_,heh⟩:=FM.out.hands;rw [evh] at evh2;simp only [Value.slice.injEq,true_and] at evh2;obtain ⟨rfl,rfl⟩:=evh2;obtain ⟨hbk,hof,rfl,hhb,b0,b1,b2,b3,okh⟩:=heh n hlt;have hdx:=MM.hds.2 _ (List.getElem_mem hlt);have hcov:=hls_yes (s:=s) (ok:=false) (a:=a) hlt;have hunc:=hls_no (s:=s) (ok:=false) (a:=a) hlt;obtain ⟨⟨lo,hi_,gg,cl⟩,hh⟩:∃ x,Hid (E.m.handlers[n]=x):=⟨_,Lib.hid rfl⟩;rw [hh.out] at b0 b1 b2 b3 okh hdx hcov hunc;simp only [Form.hd,Bool.and_eq_true,decide_eq_true_eq,Run.rng_iff] at hdx;simp only at b0 b1 b2 b3 okh;obtain ⟨kg,rfl⟩:∃ kg:Nat,gg=(kg:Int):=⟨gg.toNat,by omega⟩
         have hkg:kg < E.m.code.length:=by omega
         simp only [Chk.covers] at hcov hunc;have hcov':=Lib.hid hcov;have hunc':=Lib.hid hunc;clear hcov hunc heh;have i9:(n:Int) < E.m.handlers.length:=by omega
         have lhb:=cell_lt b0;have r0:=(FM.out.ck 0 (by simp [ccells,meV])).1
         have r9:=(FM.out.ck 9 (by simp [ccells,meV])).1
         simp [ccells,meV] at r0 r9;rw [evd] at r9;have lcbr:=cell_lt r0;have LO:=leads_ok hm (hls E.m s false a n) LO9.out (hno2.out n)
         have hwl:(leads E.f.classes R9 (hls E.m s false a n)).work.length≤100000000:=by
          have h1:=work_le E.m.regs.toNat 1 (leads E.f.classes R9 (hls E.m s false a n));have h2:=LO.2.1;have h3:=hm9.out;omega
         replace LO:=Lib.hid LO.1;replace hwl:=Lib.hid hwl;have hms:Hid (E.m.handlers.length - (n+1) < E.m.handlers.length - n):=Lib.hid (by omega)
         have nstay:Hid (∀ W,Below wr.heap.size wr W→hls E.m s false a (n+1)=hls E.m s false a n→∃ vw3,Hid (Fw E W vw3 (leads E.f.classes R9 (hls E.m s false a (n+1))))∧Hid (Kp (zone E vw) w W)∧Hid (∀ k,zone E vw3 k→zone E vw k∨w.heap.size≤k)):=fun W hW e=>⟨vw2,by rw [e];exact FM.out.below hW,kpb KM.out hW,ZM⟩
         by_cases d1:(a:Int) < lo
         ·go_wp2
          obtain ⟨vw3,G1,G2,G3⟩:=nstay.out (wr.alloc (.cells #[.int .i64 lo,.int .i64 hi_,.int .i64 kg,.int .i64 cl] 90)) (by exact Rd.byB) (hunc'.out (by simp;omega))
          exact ⟨⟨n+1,vw3,by simp,hlt,G1,G2,G3⟩,hms.out⟩
         ·by_cases d2:hi_≤(a:Int)
          ·go_wp2
           obtain ⟨vw3,G1,G2,G3⟩:=nstay.out (wr.alloc (.cells #[.int .i64 lo,.int .i64 hi_,.int .i64 kg,.int .i64 cl] 90)) (by exact Rd.byB) (hunc'.out (by simp;omega))
           exact ⟨⟨n+1,vw3,by simp,hlt,G1,G2,G3⟩,hms.out⟩
          ·have hcv:=Lib.hid (hcov'.out (by simp;omega))
           clear hcov' hunc' nstay
           have hend:Hid (∀ (W W9:World),Below wr.heap.size wr W→(∃ vw3,Fw E W9 vw3 (Flow.lead E.f.classes (leads E.f.classes R9 (hls E.m s false a n)) kg (Ckr.hstate E.m s false ⟨lo,hi_,kg,cl⟩))∧Kp (zone E vw2) W W9∧∀ k,zone E vw3 k→zone E vw2 k∨W.heap.size≤k)→∃ vw3,Hid (Fw E W9 vw3 (leads E.f.classes R9 (hls E.m s false a (n+1))))∧Hid (Kp (zone E vw) w W9)∧Hid (∀ k,zone E vw3 k→zone E vw k∨w.heap.size≤k)):=fun W W9 hW ⟨vw3,G1,G2,G3⟩ =>
            ⟨vw3,by rw [hcv.out,leads_snoc];exact G1,(kpb KM.out hW).trans G2 ZM.out,fun k hk=>(G3 k hk).elim (ZM.out k) (fun e=>.inr (Nat.le_trans (Nat.le_trans KM.out.size hW.size) e))⟩
           have SH:Hid (StOk E.f.classes.length E.m.regs.toNat 1 (Ckr.hstate E.m s false ⟨lo,hi_,kg,cl⟩)):=hno2.out (n+1) (kg,Ckr.hstate E.m s false ⟨lo,hi_,kg,cl⟩) (by rw [hcv.out];simp)
           have zfh:Hid (∀ k,zone E vw2 k→k < wr.heap.size):=fun k hk=>(zone_lo FM.out hk).2;clear hcv
           go_upto_region 31 with (fail)
           obtain ⟨Wh,hWh⟩:∃ Wh,Wh=(wr.alloc (.cells #[.int .i64 lo,.int .i64 hi_,.int .i64 kg,.int .i64 cl] 90)).alloc (.cells #[.slice none 0 0,.slice none 0 0,.bool true] 157):=⟨_,rfl⟩;have hbh:Below wr.heap.size wr Wh:=by rw [hWh];exact Rd.byB
           have lcbr1:E.cb < wr.heap.size+1:=by omega
           have p2:Wh.cell? ⟨wr.heap.size,2,none⟩=some (.int .i64 kg):=by rw [hWh];go_simp
           have y0:Wh.cell? ⟨wr.heap.size+1,0,none⟩=some (.slice none 0 0):=by rw [hWh];go_simp
           have y1:Wh.cell? ⟨wr.heap.size+1,1,none⟩=some (.slice none 0 0):=by rw [hWh];go_simp
           have y2:Wh.cell? ⟨wr.heap.size+1,2,none⟩=some (.bool true):=by rw [hWh];go_simp
           replace r0:=kept hbh lcbr r0;have FH:=Lib.hid (FM.out.below hbh);rw [← hWh];clear hWh b0 b1 b2 b3 r9;have hst:Hid (Ckr.hstate E.m s false ⟨lo,hi_,kg,cl⟩=State.bad):=Lib.hid rfl
           go_wp2_with fail
           go_still_tail 7,(by kernel_rfl)
           go_wp2_with fail
           refine (lead (FH.out.below (w':=Wh.drew) (by exact Rd.byB)) hm LO.out (v:=.agg #[.slice none 0 0,.slice none 0 0,.bool true]) (s:=State.bad) ⟨_,_,rfl,TS.nil _ _,TS.nil _ _⟩ (by rw [hst.out] at SH;exact SH.out) hn1000.out (by decide) kg hwl.out).mono ?_
           rintro e w9 ⟨rfl,vw3,F9,K9,Z9⟩;rw [← hst.out] at F9;obtain ⟨vw4,G1,G2,G3⟩:=hend.out Wh w9 hbh ⟨vw3,F9,(Kp.drew (Kp.refl (zone E vw2) Wh)).trans K9 (fun y h=>.inl h),fun k hk=>(Z9 k hk).imp id (fun e=>by simpa using e)⟩
           go_wp2_with fail
           exact ⟨⟨n+1,vw4,by simp,hlt,G1,G2,G3⟩,hms.out⟩
        ·obtain rfl:n=E.m.handlers.length:=by omega
         go_wp2
         first | go_end0 | ((try simp only [Exit.inBlock,Exit.then]);refine bodyPost_ret (results_none rfl _ _ _) rfl ?_)
         rw [hfin.out];exact ⟨rfl,vw2,FM.out,KM.out,ZM.out⟩
   | some g =>
    as_aux_lemma =>
     obtain ⟨t,e1,_⟩:=hod2.out g rfl;rw [hod0.out] at e1
     cases e1
theorem one (F:Fw E w vw R) (S:Run.FiR E.f) (hmem:E.m∈E.f.methods) (hR:RunOk E.f.classes.length E.m.regs.toNat 1 E.m.code.length R) (hv:VSt w (zone E vw) v s) (os:StOk E.f.classes.length E.m.regs.toNat 1 s) (a:Nat) (ha:a < E.m.code.length) (hme:meas E.m.regs.toNat 1 R≤10000000) :
  Calls Try.prog 113 #[.pointer (some ⟨E.cb,0,none⟩),.int .i64 a,v] w (LeadR E vw w (leads E.f.classes ⟨R.states,R.work,R.bad || !(Ckr.one E.f E.m a s).1⟩ (Ckr.one E.f E.m a s).2)):=by
 cases hb:s.broken
 ·exact oneA F S hmem hR hv os a ha hme hb
 ·exact oneB F S hmem hR hv os a ha hme hb
end
end Rck
end Go.Proofs.Ytncmhenfgbcihab
