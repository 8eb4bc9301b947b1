/- Parts of the proof: Kk, Kl. -/
import Derived.Test.YtncmhenfgbcihabG19
import Derived.Deep.LoopGhost
import Derived.BigQuiet
import Derived.Laws.MakeOwn
set_option linter.unusedSimpArgs false
set_option linter.unusedVariables false
set_option maxHeartbeats 8000000
namespace Go.Proofs.Ytncmhenfgbcihab
open Go.RowKit
namespace Rck
open Num Rd D Mem Hpw Flow HierW FormW Sck
section
variable {E:FE}{w w':World}{vw:Value}{R:Flow.Run}
theorem row_last {w:World}{base n:Nat}{T:TypeId}{v:Value}{l:List Nat}{a:Nat}(h:w.ownsRow base T 1 v l.length (wcells l)) (hl:l=l.dropLast++[a]):∃ g cap,v=.slice (some ⟨g,0,none⟩) l.length cap∧l.length≤cap∧cap≤9223372036854775807∧g < w.heap.size∧w.cell? ⟨g,l.length - 1,none⟩=some (.int .i64 a):=by
 have hpos:0 < l.length:=by rw [hl];simp
 obtain ⟨g,cap,e,h1,h2,_,h4⟩:=row_form h hpos;refine ⟨g,cap,e,h1,h2,h4,?_⟩;rw [e] at h;refine row_cell h ?_;unfold wcells;rw [List.getElem?_map]
 have:l[l.length - 1]? = some a:=by
  rw [← List.getLast?_eq_getElem?,hl];simp
 rw [this];rfl
set_option maxRecDepth 100000 in
theorem run (F:Fw E w vw R) (S:Run.FiR E.f) (hmem:E.m∈E.f.methods) (hR:RunOk E.f.classes.length E.m.regs.toNat 1 E.m.code.length R) (hme:meas E.m.regs.toNat 1 R≤10000000) :
  Calls Try.prog 94 #[.pointer (some ⟨E.fb,0,none⟩),.func (.func 113) #[.pointer (some ⟨E.cb,0,none⟩)] #[]] w (LeadR E vw w (fin E.f.classes (Ckr.one E.f E.m) E.m.regs.toNat 1 R)):=by
 have hm:=S.may;have ho:=Ckr.one_ok S hmem;have HF:=Lib.hid F;have HR:=Lib.hid hR;have HME:=Lib.hid hme
 generalize hres:fin E.f.classes (Ckr.one E.f E.m) E.m.regs.toNat 1 R=RES
 replace hres:=Lib.hid hres;obtain ⟨n0,hn0⟩:∃ n,n=meas E.m.regs.toNat 1 R:=⟨_,rfl⟩;have hn00:=Lib.hid hn0;clear F hR hme hn0
 go_enter Try.func94,Try.ntmps94
 go_wp2_with fail
 go_loopg [4] n0 (fun k p wr=>∃ (vw1:Value) (R1:Flow.Run),Hid (Fw E wr vw1 R1)∧Hid (RunOk E.f.classes.length E.m.regs.toNat 1 E.m.code.length R1)∧Hid (meas E.m.regs.toNat 1 R1=k)∧Hid (meas E.m.regs.toNat 1 R1≤10000000)∧Hid (fin E.f.classes (Ckr.one E.f E.m) E.m.regs.toNat 1 R1=RES)∧Hid (Kp (zone E vw) w wr)∧Hid (∀ k,zone E vw1 k→zone E vw k∨w.heap.size≤k))
 case atStart=>exact ⟨vw,R,HF,HR,Lib.hid hn00.out.symm,HME,hres,Kp.refl _ _,fun k h=>.inl h⟩
 case round =>
  obtain ⟨vw1,R1,FN,RN,MN,LN,EN,KN,ZN⟩:=hrel;have f2:=(FN.out.fl 2 (by simp)).1
  have z2:=(FN.out.fl 2 (by simp)).2
  have f1:=(FN.out.fl 1 (by simp)).1
  simp only [List.getElem_cons_zero,List.getElem_cons_succ] at f1 f2
  by_cases hw:R1.work=[]
  ·obtain ⟨wa,wcap,evw⟩:=row_any FN.out.wk;have EVW:=Lib.hid evw;rw [evw,hw] at f2;clear evw
   go_wp2
   first | go_end0 | ((try simp only [Exit.inBlock,Exit.then]);refine bodyPost_ret (results_none rfl _ _ _) rfl ?_)
   rw [fin_done hm hw] at EN;rw [← EN.out];exact ⟨rfl,vw1,FN.out,KN.out,ZN.out⟩
  ·obtain ⟨a,hga⟩:∃ a,R1.work.getLast? = some a:=by
    cases h:R1.work.getLast? with
    | none=>exact absurd (List.getLast?_eq_none_iff.1 h) hw
    | some a=>exact ⟨a,rfl⟩
   have hla:=last_of hga;obtain ⟨g,cap,evw,q1,q2,lg,ce⟩:=row_last (n:=0) FN.out.wk hla;obtain ⟨ha,s,hs⟩:=RN.out.2.2 a (by rw [hla];simp)
   have hlen:R1.states.length=E.m.code.length:=RN.out.1;obtain ⟨v0,k0,fz0,p0⟩:=FN.out.st a (by rw [hlen];exact ha)
   rw [hs] at p0;obtain ⟨pb,va,vb,rfl,hpz,q0,q3,q4,u1,u2⟩:=p0
   have hrd:Hid (Flow.round E.f.classes (Ckr.one E.f E.m) R1=leads E.f.classes ⟨R1.states,R1.work.dropLast,R1.bad || !(Ckr.one E.f E.m a s).1⟩ (Ckr.one E.f E.m a s).2):=by
    show _=_
    unfold Flow.round;rw [hga];simp only [hs,Option.getD_some]
   have RO:=round_ok hm ho RN.out;have hmr:=RO.2 hw;obtain ⟨n,hn⟩:∃ n,R1.work.length=n+1:=⟨R1.work.length - 1,by have:0 < R1.work.length:=List.length_pos_iff.2 hw;omega⟩
   have hfar:=FN.out.far g (by rw [evw];rfl)
   have ng1:¬ g=E.fb:=hfar.1;have ng2:¬ E.fb=g:=fun e=>hfar.1 e.symm;have nsf:¬ E.sb=E.fb:=fun e=>FN.out.ne.2.1 e.symm;have npf:¬ pb=E.fb:=fun e=>hpz (.inl e);have hVs:VSt wr (zone E vw1) (.agg #[va,vb,.bool s.broken]) s:=⟨va,vb,rfl,u1,u2⟩;obtain ⟨c3,n3,rfl,_⟩:=u1.len;obtain ⟨c4,n4,rfl,_⟩:=u2.len;have HVs:=Lib.hid hVs;have os:=Lib.hid (RN.out.2.1 a s hs);have hcl:=(S.mes _ hmem).code;have hlc:=(S.mes _ hmem).regs;have HSL:=Lib.hid (stok_len os.out (by omega) (by omega))
   have hdl:R1.work.dropLast.length=n:=by rw [List.length_dropLast,hn];rfl
   have hrow:wr.ownsRow E.B 3 1 (.slice (some ⟨g,0,none⟩) n cap) R1.work.dropLast.length (wcells R1.work.dropLast):=by
    have h:=FN.out.wk;rw [evw] at h;have h2:=row_take h (k:=n) (by omega)
    rw [hdl]
    have e:wcells R1.work.dropLast=(wcells R1.work).take (n*1):=by
     unfold wcells;rw [List.dropLast_eq_take,hn,Nat.mul_one,Nat.add_sub_cancel,List.map_take]
    rw [e];exact h2
   have HROW:=Lib.hid hrow;have hfo:Hid (∀ k,(Value.slice (some ⟨g,0,none⟩) n cap).ownBlock=some k→vw1.ownBlock=some k):=fun k hk=>by rw [evw];exact hk
   have hmd:meas E.m.regs.toNat 1 (⟨R1.states,R1.work.dropLast,R1.bad⟩:Flow.Run)≤10000000:=by
    have:=LN.out
    unfold meas at this ⊢;simp only [List.length_dropLast];omega
   replace hmd:=Lib.hid hmd;have hfr:=Lib.hid (fin_round hm ho RN.out hw);have hpop:=Lib.hid (popped RN.out R1.bad);rw [evw,hn] at f2;rw [hn,Nat.add_sub_cancel] at ce;rw [hn] at q1;have s1:IntKind.i64.wrap (((n+1:Nat):Int) - 1)=(n:Int):=by rw [Num.wrap_i64,wrap64_id (by unfold Ok;omega)];omega
   have lfb:=cell_lt f1;have lsb:=cell_lt k0;have lpb:=cell_lt q0;have a2:(a:Int) < R1.states.length:=by omega
   have hap:=FN.out.some_.2;have hmr':=Lib.hid hmr;have RO1:=Lib.hid RO.1;clear hga hla hs hw hrow hVs u1 u2 hmr RO hn hdl evw hfar
   go_wp2_with fail
   go_quiet (fail)
   go_wp2_with fail
   go_region
   go_wp2_with fail
   have F1:=FN.out.below (w':=wr.drewN (nq+1)) (by exact Rd.byB)
   have FA:=F1.work (w2:=wr.drewN (nq+1)) (l:=R1.work.dropLast) (vn:=.slice (some ⟨g,0,none⟩) n cap) (Kp.refl _ _) (row_keep (X:=fun _=>False) HROW.out ((Kp.refl _ _).drewN _) (fun _ _ e=>e)) (fun k hk=>.inl (hfo.out k hk));obtain ⟨W2,hW2⟩:∃ W2,W2=(wr.drewN (nq+1)).setCell ⟨E.fb,2,none⟩ (.slice (some ⟨g,0,none⟩) n cap):=⟨_,rfl⟩;rw [← hW2] at FA ⊢;clear hW2 F1;obtain ⟨FB,KB,ZB⟩:=FA;have zfb:∀ k,zone E (.slice (some ⟨g,0,none⟩) n cap) k→k < W2.heap.size:=fun k hk=>(zone_lo FB hk).2;replace FB:=Lib.hid FB;replace KB:=Lib.hid KB;replace ZB:=Lib.hid ZB;have HVd:=HVs.out.below (X':=zone E vw1) (w':=wr.drewN (nq+1)) (by exact Rd.byB) (fun _ _ e=>e)
   refine (clone (HVd.next (X':=fun _=>False) KB.out (fun _ _ e=>e) (fun _ _ e=>e.elim)) HSL.out.1 HSL.out.2).mono ?_;clear HVd;rintro e w3 ⟨xs,xk,rfl,Q1,Q2,N12,hb3⟩;have F3:=Lib.hid (FB.out.below hb3);replace Q1:=Lib.hid Q1;replace Q2:=Lib.hid Q2;replace hb3:=Lib.hid hb3
   go_wp2_with fail
   refine (one F3.out S hmem hpop.out (v:=.agg #[xs,xk,.bool s.broken]) (s:=s) ⟨_,_,rfl,Q1.out.ts (fun b hb hz=>by have:=zfb b hz;have:=(Q1.out.lt hb).1;omega),Q2.out.ts (fun b hb hz=>by have:=zfb b hz;have:=(Q2.out.lt hb).1;omega)⟩ os.out a ha hmd.out).mono ?_
   rintro e w9 ⟨rfl,vw2,F9,K9,Z9⟩;simp only at F9;rw [← hrd.out] at F9;have KD:Kp (zone E vw1) wr w9:=(((Kp.refl (zone E vw1) wr).drewN (nq+1)).trans (kpb KB.out hb3.out) (fun y h=>.inl h)).trans K9 (fun y h=>(ZB.out y h).imp id (fun e=>by simpa using e))
   have ZD:∀ k,zone E vw2 k→zone E vw k∨w.heap.size≤k:=fun k hk=>by
    rcases Z9 k hk with h | h
    ·rcases ZB.out k h with h | h
     ·exact ZN.out k h
     ·right
      have:=KN.out.size
      simp at h;omega
    ·right
     have h1:=KN.out.size;have h2:=KB.out.size;have h3:=hb3.out.size;simp at h2;omega
   replace F9:=Lib.hid F9;replace KD:=Lib.hid KD;replace ZD:=Lib.hid ZD;clear K9 Z9
   go_wp2_with fail
   go_roundg (meas E.m.regs.toNat 1 (Flow.round E.f.classes (Ckr.one E.f E.m) R1))
   case measure=>rw [← MN.out];exact hmr'.out
   case rel=>exact ⟨vw2,_,F9,RO1,Lib.hid rfl,Lib.hid (Nat.le_trans (Nat.le_of_lt hmr'.out) LN.out),Lib.hid (by rw [hfr.out];exact EN.out),Lib.hid (KN.out.trans KD.out ZN.out),ZD⟩
end
end Rck
namespace Rck
open Num Rd D Mem Hpw Flow HierW FormW Sck
theorem info_ps:(Try.prog.info? 213).map (fun i=>(i.zero,i.size,i.bytes))=some (some (.pointer none),1,8):=by kernel_rfl
theorem tcells_rep (n:Nat):tcells (List.replicate n none_)=List.replicate (n*2) (.int .i64 0):=by
 induction n with
 | zero=>rfl
 | succ n ih=>rw [List.replicate_succ,show (none_ :: List.replicate n none_)=[none_]++List.replicate n none_ from rfl,tcells_append,ih,show (n+1)*2=n*2+1+1 by omega,List.replicate_succ,List.replicate_succ];rfl
theorem mkTys (n:Nat) (hn:n≤1000) (w:World):∃ w',(Instr.makeSlice 49 (.int .i64 (n:Int)) (.int .i64 (n:Int))).run Try.prog w=.ok (.slice (some ⟨w.heap.size,0,none⟩) n n) w'∧TR w' w.heap.size (.slice (some ⟨w.heap.size,0,none⟩) n n) (List.replicate n none_)∧Below w.heap.size w w'∧w.heap.size < w'.heap.size:=by
 obtain ⟨i,hi,hz,h1,h2⟩:=info_parts info_ty;obtain ⟨w',hrun,hown,hg⟩:=run_make_full (P:=Try.prog) (w:=w) w.heap.size 49 51 i (.agg #[.int .i64 0,.int .i64 0]) 2 Try.underlying49 hi hz h1 .i64 .i64 n (by rw [h2];omega) (by unfold maxLen;omega) (Nat.le_refl _)
 refine ⟨w',hrun,⟨?_,TsOk.rep n⟩,?_,(World.ownsRow.lt hown _ rfl).2⟩
 ·have e:(madeCells (Value.agg #[.int .i64 0,.int .i64 0]).cells (n*2)).toList=tcells (List.replicate n none_):=by
   rw [tcells_rep]
   apply List.ext_getElem
   ·simp [madeCells]
   ·intro j h1 h2
    rw [List.getElem_replicate];have e3:(j % 2=0)∨(j % 2=1):=by omega
    rcases e3 with e3 | e3 <;> simp [madeCells,Value.cells,e3]
  rw [List.length_replicate,← e];exact hown
 ·exact (Kp.of_grown (X:=fun _=>False) hg (fun k e=>by cases e)).below (Nat.le_refl _) (fun _ e=>e.elim)
theorem mkPs (n:Nat) (hn:n≤3000) (w:World):∃ w',(Instr.makeSlice 91 (.int .i64 (n:Int)) (.int .i64 (n:Int))).run Try.prog w=.ok (.slice (some ⟨w.heap.size,0,none⟩) n n) w'∧(∀ k,k < n→w'.cell? ⟨w.heap.size,k,none⟩=some (.pointer none)∧w'.frozen? ⟨w.heap.size,k,none⟩=false)∧Below w.heap.size w w'∧w.heap.size < w'.heap.size:=by
 obtain ⟨i,hi,hz,h1,h2⟩:=info_parts info_ps;obtain ⟨w',hrun,hown,hg⟩:=run_make_full (P:=Try.prog) (w:=w) w.heap.size 91 213 i (.pointer none) 1 Try.underlying91 hi hz h1 .i64 .i64 n (by rw [h2];omega) (by unfold maxLen;omega) (Nat.le_refl _)
 refine ⟨w',hrun,fun k hk=>?_,?_,(World.ownsRow.lt hown _ rfl).2⟩
 ·have hj2:(madeCells (Value.pointer none).cells (n*1)).toList[k]? = some (.pointer none):=by
   simp [madeCells,Value.cells,hk,Nat.mod_one]
  exact ⟨row_cell hown hj2,row_free hown⟩
 ·exact (Kp.of_grown (X:=fun _=>False) hg (fun k e=>by cases e)).below (Nat.le_refl _) (fun _ e=>e.elim)
theorem tstores_snoc:∀ (ts:List Ty) (l:List Ty) (a:Nat) (t:Ty),Chk.tstores l a (ts++[t])=Flow.store (Chk.tstores l a ts) (a+Form.slots ts) t:=by
 intro ts
 induction ts with
 | nil=>intro l a t;rfl
 | cons x ts ih =>
  intro l a t
  rw [List.cons_append,Chk.tstores,ih,Chk.tstores]
  congr 1
  simp only [Form.slots];omega
theorem meas_run0 {f:Fi}{m:Me}(S:Run.FiR f) (hm:m∈f.methods):meas m.regs.toNat 1 (Ckr.run0 f m)≤10000000∧(Ckr.run0 f m).work.length≤10:=by
 have M:=S.mes m hm;have hc:=M.code;have hl:=M.regs
 have hr:RunOk f.classes.length m.regs.toNat 1 m.code.length ⟨List.replicate m.code.length none,[],false⟩:=by
  refine ⟨by simp,fun k s hk=>?_,fun a ha=>by cases ha⟩
  simp only at hk;rw [List.getD_eq_getElem?_getD,List.getElem?_replicate] at hk
  split at hk <;> cases hk
 have h:=(lead_ok S.may hr (a:=0) (Ckr.start_gd S hm).ok).2.1
 have hk:∀ (t n:Nat),rkL t (List.replicate n none)=n*t:=by
  intro t n
  induction n with
  | zero=>simp [rkL]
  | succ n ih=>rw [List.replicate_succ,rkL,ih];simp only [rkO];rw [Nat.succ_mul];omega
 refine ⟨Nat.le_trans h ?_,by rw [Ckr.run0_is S hm];simp⟩
 unfold meas;simp only [List.length_nil,Nat.add_zero];rw [hk];have h1:top m.regs.toNat 1≤1900:=by unfold top;omega
 have h2:m.code.length*top m.regs.toNat 1≤2400*1900:=Nat.mul_le_mul hc.2 h1;omega
section
variable {w:World}{f:Fi}{m:Me}{vf vm:Value}
def MethR (w:World) (p:Bool) (e:Ending) (w':World):Prop:=(∃ a n cap,e=.returned (.tuple #[.slice a n cap,.bool p]))∧Below w.heap.size w w'
set_option maxRecDepth 100000 in
theorem method (S:Run.FiR f) (hmem:m∈f.methods) (hf:VFi w w.heap.size vf f) (hm:VMe w w.heap.size vm m):Calls Try.prog 58 #[vf,vm] w (MethR w (Ckr.okMe f m)):=by
 have M:=S.mes m hmem;have hcl:=M.code;have hlc:=M.regs;have hpa:=M.params;obtain ⟨vc,vs,rfl,hc,hms⟩:=hf;obtain ⟨vp,vd,vh,rfl,oks,hp,hd,hh⟩:=hm;have HC:=Lib.hid hc;have HM:=Lib.hid hms;have HP:=Lib.hid hp;have HD:=Lib.hid hd;have HH:=Lib.hid hh;obtain ⟨ca,ccap,rfl,_⟩:=hc;obtain ⟨ma,mcap,rfl,_⟩:=hms;obtain ⟨pa,pcap,rfl,_,_,hel⟩:=hp;obtain ⟨da,dcap,rfl,_⟩:=hd;obtain ⟨ha,hcap,rfl,_⟩:=hh;have HEL:=Lib.hid hel;clear hel;obtain ⟨lo,hlo⟩:∃ lo:Nat,m.regs=(lo:Int):=⟨m.regs.toNat,by omega⟩
 obtain ⟨nc,hnc⟩:∃ nc,nc=m.code.length:=⟨_,rfl⟩;have HNC:=Lib.hid hnc;rw [← hnc] at hcl ⊢;have hlo2:=Lib.hid hlo;rw [hlo];clear hnc hlo
 go_enter Try.func58,Try.ntmps58
 go_upto_region 1 with (fail)
 obtain ⟨W,hW⟩:∃ W,W=(w.alloc (.cells #[.slice ca f.classes.length ccap,.slice ma f.methods.length mcap] 25)).alloc (.cells #[.slice pa m.params.length pcap,.int .i64 m.ret.kind,.int .i64 m.ret.cls,.int .i64 m.stack,.int .i64 m.locals,.int .i64 lo,.slice da nc dcap,.slice ha m.handlers.length hcap] 55):=⟨_,rfl⟩;have hbW:Below w.heap.size w W:=by rw [hW];exact Rd.byB
 have hsW:W.heap.size=w.heap.size+1+1:=by rw [hW];simp
 have f0:W.cell? ⟨w.heap.size,0,none⟩=some (.slice ca f.classes.length ccap):=by rw [hW];go_simp
 have f1:W.cell? ⟨w.heap.size,1,none⟩=some (.slice ma f.methods.length mcap):=by rw [hW];go_simp
 have m0:W.cell? ⟨w.heap.size+1,0,none⟩=some (.slice pa m.params.length pcap):=by rw [hW];go_simp
 have m1:W.cell? ⟨w.heap.size+1,1,none⟩=some (.int .i64 m.ret.kind):=by rw [hW];go_simp
 have m2:W.cell? ⟨w.heap.size+1,2,none⟩=some (.int .i64 m.ret.cls):=by rw [hW];go_simp
 have m3:W.cell? ⟨w.heap.size+1,3,none⟩=some (.int .i64 m.stack):=by rw [hW];go_simp
 have m4:W.cell? ⟨w.heap.size+1,4,none⟩=some (.int .i64 m.locals):=by rw [hW];go_simp
 have m5:W.cell? ⟨w.heap.size+1,5,none⟩=some (.int .i64 lo):=by rw [hW];go_simp
 have m6:W.cell? ⟨w.heap.size+1,6,none⟩=some (.slice da nc dcap):=by rw [hW];go_simp
 have m7:W.cell? ⟨w.heap.size+1,7,none⟩=some (.slice ha m.handlers.length hcap):=by rw [hW];go_simp
 rw [← hW];clear hW;obtain ⟨w2,hrun,hps,hb2,hlt2⟩:=mkPs nc (by omega) W.drew
 have hb2W:Below W.heap.size W w2:=Below.trans (by exact Rd.byB) (hb2.mono Rd.byL)
 have hs2:=hb2W.size;have e0:=kept hb2W (cell_lt f0) f0;have e1:=kept hb2W (cell_lt f0) f1;have g0:=kept hb2W (cell_lt m0) m0;have g1:=kept hb2W (cell_lt m0) m1;have g2:=kept hb2W (cell_lt m0) m2;have g3:=kept hb2W (cell_lt m0) m3;have g4:=kept hb2W (cell_lt m0) m4;have g5:=kept hb2W (cell_lt m0) m5;have g6:=kept hb2W (cell_lt m0) m6;have g7:=kept hb2W (cell_lt m0) m7;have lf:=cell_lt f0;have lm:=cell_lt m0;have lf2:w.heap.size < w2.heap.size:=by omega
 have lm2:w.heap.size+1 < w2.heap.size:=by omega
 go_region
 obtain ⟨E,hE⟩:∃ E:FE,E=⟨f,m,w.heap.size,.slice ca f.classes.length ccap,.slice ma f.methods.length mcap,.slice pa m.params.length pcap,.slice da nc dcap,.slice ha m.handlers.length hcap,w2.heap.size,w2.heap.size+1,w.heap.size+1+1⟩:=⟨_,rfl⟩;obtain ⟨W4,hW4⟩:∃ W4,W4=(w2.alloc (.cells #[.slice ca f.classes.length ccap,.slice (some ⟨w.heap.size+1+1,0,none⟩) nc nc,.slice none 0 0] 153)).alloc (.cells #[.pointer (some ⟨w2.heap.size,0,none⟩),.slice ca f.classes.length ccap,.slice ma f.methods.length mcap,.slice pa m.params.length pcap,.int .i64 m.ret.kind,.int .i64 m.ret.cls,.int .i64 m.stack,.int .i64 m.locals,.int .i64 lo,.slice da nc dcap,.slice ha m.handlers.length hcap,.bool false] 185):=⟨_,rfl⟩;have hb4:Below w2.heap.size w2 W4:=by rw [hW4];exact Rd.byB
 have hs4:W4.heap.size=w2.heap.size+1+1:=by rw [hW4];simp
 have hb2w:Below w.heap.size w w2:=hbW.trans (hb2W.mono (by omega))
 have hb4w:Below w.heap.size w W4:=hb2w.trans (hb4.mono hb2w.size);have hlw2:w.heap.size+1+1 < w2.heap.size:=by simp at hlt2;omega
 have F4:Fw E W4 (.slice none 0 0) ⟨List.replicate nc none,[],false⟩:=by
  rw [hE];refine ⟨HC.out.mono mCls hb4w (Nat.le_refl _),HM.out.mono mMe hb4w (Nat.le_refl _),HP.out.mono mTy hb4w (Nat.le_refl _),?_,HH.out.mono mHd hb4w (Nat.le_refl _),oks,?_,?_,fun k hk=>?_,World.ownsRow_nil _ _ _ _,⟨?_,?_,?_⟩,⟨?_,?_,?_⟩,fun g hg=>by simp [Value.ownBlock] at hg,?_⟩
  ·have h:=HD.out.mono mIns hb4w (Nat.le_refl _);rw [← HNC.out] at h;exact h
  ·rw [hW4];simp only [List.length_replicate];exact (Blk.made w2 [.slice ca f.classes.length ccap,.slice (some ⟨w.heap.size+1+1,0,none⟩) nc nc,.slice none 0 0] _).alloc _
  ·rw [hW4];have h:=Blk.made (w2.alloc (.cells #[.slice ca f.classes.length ccap,.slice (some ⟨w.heap.size+1+1,0,none⟩) nc nc,.slice none 0 0] 153)) [.pointer (some ⟨w2.heap.size,0,none⟩),.slice ca f.classes.length ccap,.slice ma f.methods.length mcap,.slice pa m.params.length pcap,.int .i64 m.ret.kind,.int .i64 m.ret.cls,.int .i64 m.stack,.int .i64 m.locals,.int .i64 lo,.slice da nc dcap,.slice ha m.handlers.length hcap,.bool false] 185;have e:(w2.alloc (.cells #[.slice ca f.classes.length ccap,.slice (some ⟨w.heap.size+1+1,0,none⟩) nc nc,.slice none 0 0] 153)).heap.size=w2.heap.size+1:=by simp
   rw [e] at h;simp only [ccells,meV,hlo2.out];exact h
  ·simp only [List.length_replicate] at hk;obtain ⟨h1,h2⟩:=hps k hk
   change w2.cell? ⟨W.heap.size,k,none⟩=_ at h1
   change w2.frozen? ⟨W.heap.size,k,none⟩=_ at h2
   rw [hsW] at h1 h2;refine ⟨.pointer none,kept hb4 hlw2 h1,keptf hb4 hlw2 h2,?_⟩;simp only;rw [List.getD_eq_getElem?_getD,List.getElem?_replicate,if_pos hk];exact rfl
  ·simp only;omega
  ·simp only;omega
  ·simp only;omega
  ·simp only;omega
  ·simp only;omega
  ·simp only;omega
  ·simp only [List.length_replicate];omega
 have EE:Hid (E.f=f∧E.m=m∧E.fb=w2.heap.size∧E.cb=w2.heap.size+1∧E.B=w.heap.size):=by
  show _
  rw [hE];exact ⟨rfl,rfl,rfl,rfl,rfl⟩
 clear hE;replace F4:=Lib.hid F4;have q0:=kept hb4 lm2 g0;have q4:=kept hb4 lm2 g5;rw [← hW4];clear hW4 hb4 g0 g1 g2 g3 g4 g5 g6 g7 e0 e1 f0 f1 m0 m1 m2 m3 m4 m5 m6 m7 hps hrun hb2 hlt2;have hlo61:lo < 91:=by have:=hlo2.out;omega
 obtain ⟨w5,hrun5,T5,hb5,hlt5⟩:=mkTys lo (by omega) W4
 have hs5:=hb5.size;have lq:=cell_lt q0;replace q0:=kept hb5 lq q0;have lq5:=cell_lt q0;replace hs4:=Lib.hid hs4;replace T5:=Lib.hid T5
 go_wp2_with fail
 obtain ⟨W6,hW6⟩:∃ W6,W6=w5.alloc (.cells #[.slice (some ⟨W4.heap.size,0,none⟩) lo lo,.slice none 0 0,.bool false] 157):=⟨_,rfl⟩;have hb6:Below w5.heap.size w5 W6:=by rw [hW6];exact Rd.byB
 have hs6:W6.heap.size=w5.heap.size+1:=by rw [hW6];simp
 have s0:W6.cell? ⟨w5.heap.size,0,none⟩=some (.slice (some ⟨W4.heap.size,0,none⟩) lo lo):=by rw [hW6];go_simp
 have s1:W6.cell? ⟨w5.heap.size,1,none⟩=some (.slice none 0 0):=by rw [hW6];go_simp
 have s2:W6.cell? ⟨w5.heap.size,2,none⟩=some (.bool false):=by rw [hW6];go_simp
 have T6:Hid (TR W6 W4.heap.size (.slice (some ⟨W4.heap.size,0,none⟩) lo lo) (List.replicate lo none_)):=T5.out.below hb6;have hb46:Below W4.heap.size W4 W6:=hb5.trans (hb6.mono hs5);rw [← hW6];clear hW6 hb6 hb5 T5 q0 q4 hrun5;have nown:∀ k,(Value.slice (some ⟨W4.heap.size,0,none⟩) lo lo).ownBlock=some k→k=W4.heap.size:=fun k e=>by simpa [Value.ownBlock,eq_comm] using e
 go_loopw [8,30] (fun b c wr=>∃ n:Nat,c=.int .i64 n∧b=.int .i64 (Form.slots (m.params.take n):Nat)∧n≤m.params.length∧Hid (TR wr W4.heap.size (.slice (some ⟨W4.heap.size,0,none⟩) lo lo) (Chk.tstores (List.replicate lo none_) 0 (m.params.take n)))∧Hid (Kp (fun k=>k=W4.heap.size) W6 wr)) (fun _ c _=>m.params.length - (intOf c).toNat)
 case atStart=>exact ⟨0,rfl,rfl,Nat.zero_le _,T6,Kp.refl _ _⟩
 case round =>
  obtain ⟨n,rfl,rfl,hn,TN,KN⟩:=hrel;have r0:=KN.out.cell s0 (by omega)
  have r1:=KN.out.cell s1 (by omega)
  have r2:=KN.out.cell s2 (by omega)
  have hszr:=KN.out.size
  by_cases hlt:n < m.params.length
  ·obtain ⟨pb,po,rfl,hpb,z0,z1,ok0,ok1⟩:=HEL.out n hlt;have hty:=hpa.2 _ (List.getElem_mem hlt);have hsn:=Form.slots_take hlt
   have hpre:Form.slots (m.params.take n)+(if (m.params[n]).kind=2 then 2 else 1)≤lo:=by
    have h1:=hlo2.out;have h2:=hlc.1
    have h3:Form.slots (m.params.take (n+1))≤Form.slots m.params:=by
     have e:∀ (l r:List Ty),Form.slots l≤Form.slots (l++r):=fun l r=>by
      induction l with
      | nil=>simp [Form.slots]
      | cons x l ih=>simp only [List.cons_append,Form.slots];omega
     have:=e (m.params.take (n+1)) (m.params.drop (n+1))
     rwa [List.take_append_drop] at this
    omega
   have hgd:=Chk.tstores_gd f.classes.length (m.params.take n) (List.replicate lo none_) 0 (fun t ht=>hpa.2 t (List.take_subset _ _ ht)) (by simp;omega) (fun x hx=>by have:=List.eq_of_mem_replicate hx;subst this;exact wf_none _) (Chk.none_paired _)
   have htl:=Chk.tstores_len (m.params.take n) (List.replicate lo none_) 0;rw [List.length_replicate] at htl;have hsnoc:=tstores_snoc (m.params.take n) (List.replicate lo none_) 0 m.params[n];have etk:m.params.take (n+1)=m.params.take n++[m.params[n]]:=List.take_succ_eq_append_getElem hlt;rw [← etk,Nat.zero_add] at hsnoc;obtain ⟨⟨tk,tc⟩,ht⟩:∃ t,Hid (m.params[n]=t):=⟨_,Lib.hid rfl⟩;rw [ht.out] at z0 z1 ok0 ok1 hty hpre hsnoc hsn;simp only at z0 z1 ok0 ok1 hpre hsn;obtain ⟨q,hq⟩:∃ q,Hid (Form.slots (m.params.take n)=q):=⟨_,Lib.hid rfl⟩;rw [hq.out] at hpre hsnoc hsn ⊢;have wz0:=KN.out.cell (kept hb46 (by have:=hb4w.size;omega) (kept hb4w hpb z0)) (by have:=hb4w.size;omega)
   have wz1:=KN.out.cell (kept hb46 (by have:=hb4w.size;omega) (kept hb4w hpb z1)) (by have:=hb4w.size;omega)
   have lpb:=cell_lt wz0;have i9:(n:Int) < m.params.length:=by omega
   have hkd:=(Chk.wf_ty hty).2;simp only at hkd;obtain ⟨SZ,hSZ⟩:∃ SZ,Hid (Form.slots [⟨tk,tc⟩]=SZ):=⟨_,Lib.hid rfl⟩;have hSZ2:SZ=if tk=2 then 2 else 1:=by rw [← hSZ.out];simp [Form.slots]
   have lr:=cell_lt r0;replace hsnoc:=Lib.hid hsnoc;replace hsn:=Lib.hid hsn;replace htl:=Lib.hid htl;replace etk:=Lib.hid etk;replace hSZ2:=Lib.hid hSZ2;replace hpre:=Lib.hid hpre;clear z0 z1
   have hsw:IntKind.i64.wrap ((q:Int)+(SZ:Int))=((q+SZ:Nat):Int):=by
    have h1:=hpre.out;have h2:=hSZ2.out;rw [Num.wrap_i64,wrap64_id (by unfold Ok;split at h2 <;> omega)];omega
   have hlr5:w5.heap.size < wr.heap.size:=by omega
   have h4r:W4.heap.size < wr.heap.size:=by omega
   have hlo1:=Lib.hid hlo61;clear hlo61
   go_wp2_with fail
   refine (Sck.store (b:=w5.heap.size) (o:=0) (l:=Chk.tstores (List.replicate lo none_) 0 (m.params.take n)) (vs:=.slice (some ⟨W4.heap.size,0,none⟩) lo lo) (base:=W4.heap.size) (by go_simp) (TN.out.below (by exact Rd.byB)) (fun e=>by have:=nown _ e;omega) q ⟨tk,tc⟩ ⟨ok0,ok1⟩ (by have h1:=hpre.out;rw [htl.out];split at h1 <;> omega) (fun e=>by have h1:=hpre.out;simp only at e;rw [if_pos e] at h1;rw [htl.out];omega) hgd.2 (by rw [htl.out];have:=hlo1.out;omega)).mono ?_
   rintro e w7 ⟨rfl,T7,K7⟩;have n4r:¬ (Value.slice (some ⟨W4.heap.size,0,none⟩) lo lo).ownBlock=some wr.heap.size:=fun e=>by have:=nown _ e;omega
   have y0:w7.cell? ⟨wr.heap.size,0,none⟩=some (.int .i64 tk):=K7.cell (by go_simp) n4r
   have y1:w7.cell? ⟨wr.heap.size,1,none⟩=some (.int .i64 tc):=K7.cell (by go_simp) n4r
   have K7':Hid (Kp (fun k=>k=W4.heap.size) W6 w7):=(KN.out.alloc _).trans K7 (fun y h=>.inl (nown y h));have ly:=cell_lt y0;rw [← hsnoc.out] at T7;replace T7:=Lib.hid T7;clear K7
   go_wp2_with (go_at_call 92;refine (slotsV _ [⟨tk,tc⟩] SZ _ (Ts.one (by go_simp) (by go_simp) ok0 ok1) (by simp) hSZ.out).mono ?_;rintro e w8 ⟨rfl,hb8⟩;have hb8':Below w7.heap.size w7 w8:=Below.trans (by exact Rd.byB) (hb8.mono Rd.byL))
   refine ⟨⟨n+1,by simp,?_,hlt,T7.out.below hb8',Lib.hid (kpb K7'.out hb8')⟩,by simp only [intOf];omega⟩
   rw [hsn.out,hSZ2.out]
   simp
  ·obtain rfl:n=m.params.length:=by omega
   rw [List.take_length] at TN ⊢;obtain ⟨rfl,rfl,e3,e4,e5⟩:=EE.out;have hbr:Below W4.heap.size W4 wr:=hb46.trans (KN.out.below (by have:=hb46.size;omega) (fun k e=>by omega))
   have FR:=F4.out.below hbr
   have RK:RunOk E.f.classes.length E.m.regs.toNat 1 E.m.code.length ⟨List.replicate nc none,[],false⟩:=by
    refine ⟨by simp [HNC.out],fun k s hk=>?_,fun a ha=>by cases ha⟩
    simp only at hk;rw [List.getD_eq_getElem?_getD,List.getElem?_replicate] at hk
    split at hk <;> cases hk
   have hlo3:E.m.regs.toNat=lo:=by have:=hlo2.out;omega
   have SG:=(Ckr.start_gd S hmem).ok;have zlr:∀ k,zone E (.slice none 0 0) k→k < W4.heap.size:=fun k hk=>(zone_lo F4.out hk).2
   have hVS:VSt wr (zone E (.slice none 0 0)) (.agg #[.slice (some ⟨W4.heap.size,0,none⟩) lo lo,.slice none 0 0,.bool false]) (Ckr.start E.m):=by
    refine ⟨_,_,rfl,?_,TS.nil _ _⟩;unfold Ckr.start;rw [hlo3];exact TN.out.ts (fun g hg hz=>by have:=nown g hg;have:=zlr g hz;omega)
   have hLE:Hid (∀ (V:World),Below wr.heap.size wr V→Calls Try.prog 93 #[.pointer (some ⟨w2.heap.size,0,none⟩),.int .i64 0,.agg #[.slice (some ⟨W4.heap.size,0,none⟩) lo lo,.slice none 0 0,.bool false]] V (LeadR E (.slice none 0 0) V (Ckr.run0 E.f E.m))):=fun V hV=>by
    have h:=lead (FR.below hV) S.may RK (hVS.below (X':=zone E (.slice none 0 0)) hV (fun _ _ e=>e)) SG (by omega) (by omega) 0 (by simp)
    rw [e3] at h;unfold Ckr.run0;rw [← HNC.out];exact h
   have hRU:Hid (∀ (V:World) (vn:Value),Fw E V vn (Ckr.run0 E.f E.m)→Calls Try.prog 94 #[.pointer (some ⟨w2.heap.size,0,none⟩),.func (.func 113) #[.pointer (some ⟨w2.heap.size+1,0,none⟩)] #[]] V (LeadR E vn V (Ckr.final E.f E.m))):=fun V vn hF=>by
    have h:=run hF S hmem (Ckr.run0_ok S hmem) (meas_run0 S hmem).1;rw [e3,e4] at h;exact h
   have c0:=(FR.ck 0 (by simp [ccells,meV])).1
   simp [ccells,meV] at c0;rw [e3,e4] at c0;have lc:=cell_lt c0;have hbwr:Below w.heap.size w wr:=hb4w.trans (hbr.mono (by have:=hb4w.size;omega))
   have zlw:∀ k,zone E (.slice none 0 0) k→w.heap.size≤k:=fun k hk=>by have:=(zone_lo F4.out hk).1;omega
   clear FR RK SG hVS F4 TN KN s0 s1 s2 T6 hb46 HEL HP HM HC HD HH
   go_wp2_with fail
   go_still_tail 5,(by kernel_rfl)
   go_wp2_with fail
   refine (hLE.out wr.drew (by exact Rd.byB)).mono ?_
   rintro e wa ⟨rfl,vw1,F1,K1,Z1⟩;have hba:Below w.heap.size w wa:=(Below.trans hbwr (by exact Rd.byB)).trans (K1.below (by have:=hbwr.size;simpa using this) zlw)
   have zl1:∀ k,zone E vw1 k→w.heap.size≤k:=fun k hk=>by have:=(zone_lo F1 hk).1;omega
   have c0a:=(F1.ck 0 (by simp [ccells,meV])).1
   simp [ccells,meV] at c0a;rw [e3,e4] at c0a;clear K1 Z1;have HF1:=Lib.hid F1;clear F1
   go_wp2_with fail
   refine (hRU.out wa vw1 HF1.out).mono ?_;rintro e wb ⟨rfl,vw2,F2,K2,Z2⟩;have hbb:Below w.heap.size w wb:=hba.trans (K2.below hba.size zl1);have c0b:=(F2.ck 0 (by simp [ccells,meV])).1
   have c11b:=(F2.ck 11 (by simp [ccells,meV])).1
   have f1b:=(F2.fl 1 (by simp)).1
   simp [ccells,meV] at c0b c11b;simp only [List.getElem_cons_zero,List.getElem_cons_succ] at f1b;rw [e3,e4] at c0b;rw [e4] at c11b;rw [e3] at f1b;clear K2 Z2 F2
   go_wp2_with fail
   go_region
   go_wp2
   go_ret2
   refine ⟨⟨_,_,_,rfl⟩,by exact Rd.byB⟩
end
end Rck
end Go.Proofs.Ytncmhenfgbcihab
