/- Parts of the proof: Qd, Qe, Qg, Gw, Gt, Qr, FormY, MayS, Qt, Lg, Lh, Lr. -/
import Derived.Test.YtncmhenfgbcihabGreatG11
import Derived.Test.YtncmhenfgbcihabGreatG14
import Derived.RegionTactic
import Derived.ChangeAlike
import Derived.Test.YtncmhenfgbcihabGreatG08
import Derived.Test.YtncmhenfgbcihabGreatG01
import Derived.BigQuiet
import Derived.Deep.QuietTactic
import Derived.Test.YtncmhenfgbcihabGreatG09
set_option linter.unusedSimpArgs false
set_option linter.unusedVariables false
set_option maxHeartbeats 8000000
namespace Go.Proofs.YtncmhenfgbcihabGreat
open Go.RowKit
namespace Hpw
open Num Rd D Run Mem HierW
section
variable {E:Ev}{w w' w1 w2:World}{L L' L1:Lay}{h h' h1 h2:Hp}{d:Nat}{P:PS}{m m2:Me}{fr fr' fr1:Sf}{vs vs1:Value}
set_option maxRecDepth 100000 in
theorem callRun (hm:Hier.may E.f.classes=true) (H:PH E w L h d) (X:Nat→Prop){va:Value}(args:List Vl){vp vc vh:Value}(hVM:VMe w E.B (.agg #[vp,.int .i64 m.ret.kind,.int .i64 m.ret.cls,.int .i64 m.stack,.int .i64 m.locals,.int .i64 m.regs,vc,vh]) m) (ha:VS w X va args) (hlen:args.length=m.params.length) (h4:args.length≤4) (hv:∀ v∈args,VtOk h.objs.length v) (hc:allOf E.f.classes h args m.params=true) (hd:d < 20) (hX:∀ j,own E L j→X j) (hml:m.locals < 61) (hsz:(size args:Int)≤m.locals) (b3 b4 b5:Nat) (hb3:¬ own E L b3) (hb4:¬ own E L b4) (hb5:¬ own E L b5) (c3:w.cell? ⟨b3,0,none⟩=some (.pointer (some ⟨E.hb,0,none⟩))) (c5:w.cell? ⟨b5,0,none⟩=some va) (B4:Blk w b4 [vp,.int .i64 m.ret.kind,.int .i64 m.ret.cls,.int .i64 m.stack,.int .i64 m.locals,.int .i64 m.regs,vc,vh]) (r:Res Vl) (HO:HpOk E.f.classes E.input E.fuel h) (HS0:SfB m h.objs.length (senter m args)) (g:Nat) (hr:loop SM E.f E.input E.fuel g (d+1) m (senter m args) h=r) (hg:E.fuel < g+h.steps) (FS:FiS E.f) (hmm:m∈E.f.methods) (hfu:E.fuel≤60000) (hin:E.input.length≤1000) (KM:MachOk SM SfB E.f E.input E.fuel) (HIN:Hid (∀ (g:Nat) (h1:Hp),E.fuel < g+h1.steps→InvOk E (d+1) g h1)) :
  Calls Tryz.prog 50 #[.pointer (some ⟨E.hb,0,none⟩),.agg #[vp,.int .i64 m.ret.kind,.int .i64 m.ret.cls,.int .i64 m.stack,.int .i64 m.locals,.int .i64 m.regs,vc,vh],va,.func (.func 51) #[] #[.pointer (some ⟨b3,0,none⟩),.pointer (some ⟨b4,0,none⟩),.pointer (some ⟨b5,0,none⟩)]] w (InvR E L d w r):=by
 have HH:=Lib.hid H
 have hd1:d≤1000:=by omega
 have HVM:=Lib.hid hVM
 have HB4:=Lib.hid B4
 have HC3:=Lib.hid c3
 have HC5:=Lib.hid c5
 clear c3 c5 B4
 have HRR:=Lib.hid hr
 clear hr
 obtain ⟨vp',vc',vh',hmv',oks,sps,sco,shs⟩:=hVM
 obtain ⟨rfl,rfl,rfl⟩:vp=vp'∧vc=vc'∧vh=vh':=by
  simp at hmv'
  exact ⟨hmv'.1,hmv'.2.1,hmv'.2.2⟩
 obtain ⟨pa,pcap,rfl,p1,p2,pel⟩:=id sps
 obtain ⟨ca,ccap,rfl,p3,p4,_⟩:=id sco
 obtain ⟨ha',hcap,rfl,p5,p6,_⟩:=id shs
 have HA:=Lib.hid ha
 obtain ⟨ax,acap,rfl,a1,a2⟩:=ha.len
 have PEL:=Lib.hid pel
 have hlq:((args.length:Int)==(m.params.length:Int))=true:=by rw [hlen];simp
 have hEB:E.B≤w.heap.size:=by have:=H.base;omega
 clear H ha hmv' sps sco shs pel
 go_enter_defers Tryz.func50,Tryz.ntmps50
 go_wp2_with fail
 refine (mustT _).mono ?_
 rintro e w2 ⟨rfl,rfl⟩
 go_wp2_with fail
 generalize hWW:World.alloc _ (.cells #[.int .i64 0,.int .i64 0] 46)=W
 replace hWW:=Lib.hid hWW
 have e0:W.cell? ⟨w.heap.size,0,none⟩=some (.pointer (some ⟨E.hb,0,none⟩)):=by rw [← hWW.out];go_simp
 have HB:=Lib.hid (show Below w.heap.size w W from by rw [← hWW.out];exact Rd.byB)
 have hsW:w.heap.size+2 < W.heap.size:=by rw [← hWW.out];simp
 have X0:=Lib.hid (show Blk W w.heap.size [.pointer (some ⟨E.hb,0,none⟩)] from by rw [← hWW.out];exact ((Blk.made w [.pointer (some ⟨E.hb,0,none⟩)] _).alloc _).alloc _)
 have X1:=Lib.hid (show Blk W (w.heap.size+1) [.slice pa m.params.length pcap,.int .i64 m.ret.kind,.int .i64 m.ret.cls,.int .i64 m.stack,.int .i64 m.locals,.int .i64 m.regs,.slice ca m.code.length ccap,.slice ha' m.handlers.length hcap] from by rw [← hWW.out];exact (Blk.made1 w _ [.slice pa m.params.length pcap,.int .i64 m.ret.kind,.int .i64 m.ret.cls,.int .i64 m.stack,.int .i64 m.locals,.int .i64 m.regs,.slice ca m.code.length ccap,.slice ha' m.handlers.length hcap] _).alloc _)
 have X2:=Lib.hid (show Blk W (w.heap.size+2) [.int .i64 0,.int .i64 0] from by rw [← hWW.out];exact Blk.made2 w _ _ [.int .i64 0,.int .i64 0] _)
 clear hWW
 have HC:=Lib.hid hc
 clear hc
 go_loopw [28] (fun i wr=>∃ n:Nat,i=.int .i64 n∧n≤args.length∧Hid (Below W.heap.size W wr)∧Hid (allOf E.f.classes h args m.params=allOf E.f.classes h (args.drop n) (m.params.drop n))) (fun i _=>args.length - (intOf i).toNat)
 case atStart=>exact ⟨0,rfl,Nat.zero_le _,Lib.hid (Below.refl _ _),Lib.hid rfl⟩
 case round =>
  obtain ⟨n,rfl,hn,BW,HD⟩:=hrel
  by_cases hlt:n < args.length
  ·have hltp:n < m.params.length:=by omega
   have hni:(n:Int) < m.params.length:=by omega
   have hni2:(n:Int) < args.length:=by omega
   obtain ⟨pb,po,rfl,hpb,hpe⟩:=PEL.out n hltp
   obtain ⟨ab,ao,acap',heq,hc1,hc2,hab,hnx,hel⟩:=HA.out.form (by omega)
   simp only [Value.slice.injEq] at heq
   obtain ⟨rfl,_,rfl⟩:=heq
   obtain ⟨z0,z1⟩:=hel n hlt
   obtain ⟨v,hvv⟩:=at_of hlt
   obtain ⟨t,htt⟩:=at_of hltp
   rw [hvv.out] at z0 z1
   rw [htt.out] at hpe
   obtain ⟨y0,y1,_,_⟩:=hpe
   have hv3:v.kind=3→v.n < h.objs.length:=fun e=>by
    have hmem:v∈args:=by rw [← hvv.out];exact List.getElem_mem hlt
    exact ((hv v hmem).1.2.2.2 e).2
   have HBr:=Lib.hid (HB.out.trans (BW.out.mono (by omega)))
   have x0:=kept HBr.out (by omega) z0
   have x1:=kept HBr.out (by omega) z1
   have t0:=kept HBr.out (by omega) y0
   have t1:=kept HBr.out (by omega) y1
   have e0':=kept BW.out (by omega) e0
   have q0:=cell_lt x0
   have q1:=cell_lt t0
   have q2:=cell_lt e0'
   obtain ⟨tk,tc⟩:=t
   obtain ⟨vk,vn⟩:=v
   clear z0 z1 y0 y1 hel e0
   simp only at t0 t1 x0 x1
   go_wp2_with fail
   refine wp_region_noPanic ?_
   refine Drawn.hd (fun w'=>w'.cell? ⟨w.heap.size,0,none⟩=some (.pointer (some ⟨E.hb,0,none⟩))∧w'.cell? ⟨ab,ao+n*2,none⟩=some (.int .i64 vk)∧w'.cell? ⟨ab,ao+n*2+1,none⟩=some (.int .i64 vn)∧w'.cell? ⟨wr.heap.size,0,none⟩=some (.int .i64 tk)∧w'.cell? ⟨wr.heap.size,1,none⟩=some (.int .i64 tc)) (h:=fun hHeld=>?_)
   refine Drawn.tk 0 (some 33) rfl rfl (by assumption) ?_
   try simp only [Act.put,List.setIfInBounds_toArray,List.set_cons_zero,List.set_cons_succ]
   refine Drawn.tk 1 (some 34) rfl rfl (by assumption) ?_
   try simp only [Act.put,List.setIfInBounds_toArray,List.set_cons_zero,List.set_cons_succ]
   refine Drawn.tk 2 (some 35) rfl rfl (by assumption) ?_
   try simp only [Act.put,List.setIfInBounds_toArray,List.set_cons_zero,List.set_cons_succ]
   refine Drawn.tk 3 (some 36) rfl rfl (by assumption) ?_
   try simp only [Act.put,List.setIfInBounds_toArray,List.set_cons_zero,List.set_cons_succ]
   refine Drawn.tk 4 (some 37) rfl rfl (by assumption) ?_
   try simp only [Act.put,List.setIfInBounds_toArray,List.set_cons_zero,List.set_cons_succ]
   refine Drawn.tk 5 (some 38) rfl rfl (by assumption) ?_
   try simp only [Act.put,List.setIfInBounds_toArray,List.set_cons_zero,List.set_cons_succ]
   refine Drawn.cl 6 (fun K hK=>?_)
   go_simp
   refine (of E L h d ⟨vk,vn⟩ ⟨tk,tc⟩ _ (HH.out.below (w':=(wr.alloc (.cells #[.int .i64 tk,.int .i64 tc] 50)).drew) (by have hb:=HBr.out;exact Rd.byB)) hm hv3).mono ?_
   rintro e w3 ⟨rfl,hb3⟩
   obtain ⟨p,hp⟩:∃ p,Hid (ofT E.f.classes h ⟨vk,vn⟩ ⟨tk,tc⟩=p):=⟨_,Lib.hid rfl⟩
   rw [hp.out]
   have kk:∀ (b o:Nat) (u:Value),World.cell? _ ⟨b,o,none⟩=some u→w3.cell? ⟨b,o,none⟩=some u:=fun b o u hc=>kept hb3 (cell_lt hc) hc
   have k0:=kk w.heap.size 0 (.pointer (some ⟨E.hb,0,none⟩)) (by go_simp)
   have k1:=kk ab (ao+n*2) (.int .i64 vk) (by go_simp)
   have k2:=kk ab (ao+n*2+1) (.int .i64 vn) (by go_simp)
   have k3:=kk wr.heap.size 0 (.int .i64 tk) (by go_simp)
   have k4:=kk wr.heap.size 1 (.int .i64 tc) (by go_simp)
   have HB3:=Lib.hid (show Below wr.heap.size wr w3 from Below.trans (by exact Rd.byB) (hb3.mono Rd.byL))
   clear kk hb3
   go_wp2_with fail
   refine Drawn.bk hK (hS:=by (try dsimp only);exact ⟨k0,k1,k2,k3,k4⟩) (h:=fun hHeld=>?_)
   clear hK K
   refine Drawn.cl 7 (fun K hK=>?_)
   go_simp
   cases p with
   | false =>
    exfalso
    have h1:=HD.out
    rw [HC.out,List.drop_eq_getElem_cons hlt,List.drop_eq_getElem_cons hltp,hvv.out,htt.out] at h1
    simp [allOf,hp.out] at h1
   | true =>
    refine (mustT _).mono ?_
    rintro e w4 ⟨rfl,rfl⟩
    go_wp2_with fail
    refine Drawn.bk hK (hS:=by (try dsimp only);exact ⟨k0,k1,k2,k3,k4⟩) (h:=fun hHeld=>?_)
    clear hK K
    refine wpAnyH_done (by kernel_rfl) ?_ _
    refine NoPanic.normal ?_
    go_wp2_with fail
    go_roundw
    case rel =>
     refine ⟨n+1,by go_num,hlt,Lib.hid (BW.out.trans (HB3.out.mono BW.out.size)),?_⟩
     show _=_
     rw [HD.out,List.drop_eq_getElem_cons hlt,List.drop_eq_getElem_cons hltp,hvv.out,htt.out]
     simp [allOf,hp.out]
    case measure=>first | (simp [intOf];done) | (simp [intOf];omega)
  ·obtain rfl:n=args.length:=by omega
   have hn2:¬ ((args.length:Int) < m.params.length):=by omega
   have hn3:¬ (args.length < m.params.length):=by omega
   have HBr:=Lib.hid (HB.out.trans (BW.out.mono (by omega)))
   have c10:=(HH.out.below HBr.out).c10
   have e0':=kept BW.out (by omega) e0
   have hdd:decide ((20:Int)≤d)=false:=by simp;omega
   have f10:=(HH.out.below HBr.out).fz 10 (by decide)
   have hhb:=(HH.out.below HBr.out).hbw
   have hwd:IntKind.i64.wrap ((d:Int)+1)=((d+1:Nat):Int):=by rw [Num.wrap_i64,wrap64_id (by unfold Ok;omega)];omega
   have hwd2:wrap64 ((d:Int)+1)=((d+1:Nat):Int):=by rw [wrap64_id (by unfold Ok;omega)];omega
   have hmf:∀ (fn:Fn) (first cap:Array Value) (w:World),(Instr.makeFunc fn first cap).run Tryz.prog w=.ok (.func fn first cap) w:=fun _ _ _ _=>rfl
   clear e0
   go_wp2_with fail
   have hbE:=(HH.out).base
   have KW:=Lib.hid (show Kp (· = E.hb) w (wr.setCell ⟨E.hb,10,none⟩ (.int .i64 ((d:Int)+1))) from (Kp.of_below (X:=(· = E.hb)) HBr.out (Nat.le_refl _)).setCell (p:=⟨E.hb,10,none⟩) (.inl rfl) _)
   have HD1:=Lib.hid (show PH E (wr.setCell ⟨E.hb,10,none⟩ (.int .i64 ((d:Int)+1))) L h (d+1) from by
    have:=(HH.out.below HBr.out).deep (d+1)
    rw [show ((d+1:Nat):Int)=(d:Int)+1 from by omega] at this
    exact this)
   have ne3:b3≠E.hb:=fun e=>hb3 (.inl e)
   have ne4:b4≠E.hb:=fun e=>hb4 (.inl e)
   have ne5:b5≠E.hb:=fun e=>hb5 (.inl e)
   refine (beginP HD1.out X args (HVM.out.mono (KW.out.below hEB (fun k e=>by rw [e];exact hbE.1)) (Nat.le_refl _)) (HA.out.next KW.out (fun b _ e=>by rw [e];exact hX _ (.inl rfl)) (fun _ _ e=>e)) h4 hml hsz hv b3 b4 b5 (KW.out.cell HC3.out ne3) (KW.out.cell HC5.out ne5) _ _ _ rfl (HB4.out.next KW.out ne4)).mono ?_
   rintro e w5 ⟨P,rfl,hb5,S5,g1,g2⟩
   unfold frV
   have e0w:=kept hb5 (by have:=cell_lt e0';simp;omega) (show World.cell? (wr.setCell ⟨E.hb,10,none⟩ (.int .i64 ((d:Int)+1))) ⟨w.heap.size,0,none⟩=some (.pointer (some ⟨E.hb,0,none⟩)) from by go_simp)
   replace S5:=Lib.hid S5
   replace hb5:=Lib.hid hb5
   go_wp2_with fail
   generalize hW9:World.alloc w5 _=W9
   replace hW9:=Lib.hid hW9
   have t0:W9.cell? ⟨w5.heap.size,0,none⟩=some (.func (.func 54) #[.pointer (some ⟨P.cb,0,none⟩)] #[]):=by rw [← hW9.out];go_simp
   have t1:W9.cell? ⟨w5.heap.size,1,none⟩=some (.func (.func 55) #[.pointer (some ⟨P.cb,0,none⟩)] #[]):=by rw [← hW9.out];go_simp
   have t2:W9.cell? ⟨w5.heap.size,2,none⟩=some (.func (.func 56) #[.pointer (some ⟨P.cb,0,none⟩)] #[]):=by rw [← hW9.out];go_simp
   have hb9:Below w5.heap.size w5 W9:=by rw [← hW9.out];exact Rd.byB
   have S9:=Lib.hid (S5.out.below hb9)
   have e09:=kept hb9 (cell_lt e0w) e0w
   clear hW9
   have K9:=Lib.hid (show Kp (own E L) w W9 from ((KW.out.mono (fun k e=>.inl e)).trans (Kp.of_below (X:=fun _=>False) hb5.out (Nat.le_refl _)) (fun _ e=>e.elim)).trans (Kp.of_below (X:=fun _=>False) hb9 (Nat.le_refl _)) (fun _ e=>e.elim))
   have hbig:W.heap.size≤(wr.setCell ⟨E.hb,10,none⟩ (.int .i64 ((d:Int)+1))).heap.size:=by simp;exact BW.out.size
   have hlow:=Lib.hid (fun (b:Nat) (cs:List Value) (l1:w.heap.size≤b) (l2:b < W.heap.size) (hB:Blk W b cs)=>(show Blk W9 b cs∧¬ fo E L P (.slice none 0 0) b from
    ⟨((((hB.next (Kp.of_below (X:=fun _=>False) BW.out (Nat.le_refl _)) (fun e=>e)).far (b2:=E.hb) (o2:=10) (by have:=HH.out.hbw;omega) _).next (Kp.of_below (X:=fun _=>False) hb5.out (Nat.le_refl _)) (fun e=>e)).next (Kp.of_below (X:=fun _=>False) hb9 (Nat.le_refl _)) (fun e=>e)),notFo HH.out g1 g2 l1 (by omega)⟩))
   have gw:w.heap.size≤P.cb∧w.heap.size≤P.lb:=by omega
   have hs9:w.heap.size+2 < W9.heap.size:=by have q1:=hb5.out.size;have q2:=hb9.size;omega
   go_loopw [15] (fun _ wr2=>∃ L2 h2 fr vs2 g2,Hid (Gr E L P (.slice none 0 0) W9 L2 vs2 wr2)∧Hid (ST E wr2 L2 P m (d+1) h2 fr vs2)∧Hid (HpOk E.f.classes E.input E.fuel h2)∧Hid (SfB m h2.objs.length fr)∧Hid (loop SM E.f E.input E.fuel g2 (d+1) m fr h2=r)∧E.fuel < g2+h2.steps) (fun _ wr2=>E.fuel - (match wr2.cell? ⟨E.hb,7,none⟩ with | some (.int _ n)=>n.toNat | _=>0))
   case atStart=>exact ⟨L,h,senter m args,.slice none 0 0,g,Lib.hid ⟨Kp.refl _ _,fun _ e=>.inl e,fun _ e=>.inl e⟩,S9,Lib.hid HO,Lib.hid HS0,HRR,hg⟩
   case round =>
    obtain ⟨L2,h2,fr,vs2,g2,G2,S2,HO2,SO2,HR2,hg2⟩:=hrel
    obtain ⟨g3,rfl⟩:∃ g3,g2=g3+1:=⟨g2 - 1,by have:=HO2.out.steps;omega⟩
    have nfF:=S5.out.fo_new (Nat.le_refl _)
    have lF:=cell_lt t0
    have y0:=G2.out.cell nfF t0
    have y1:=G2.out.cell nfF t1
    have y2:=G2.out.cell nfF t2
    have nfF2:=G2.out.nf lF nfF
    obtain ⟨ou,hou⟩:∃ x,Hid (outS SM E.f E.input E.fuel g3 (d+1) m fr h2=x):=⟨_,Lib.hid rfl⟩
    have hdo:∀ (W L3:_) (vs3:Value),ST E W L3 P m (d+1) h2 fr vs3→Calls Tryz.prog 54 #[.pointer (some ⟨P.cb,0,none⟩)] W (DoR E L3 P m (d+1) vs3 fr W ou):=fun W L3 vs3 hS=>by
     rw [← hou.out]
     exact doP FS hmm hS HO2.out SO2.out.1 SO2.out.2 hfu hin g3 (HIN.out g3 (stepped h2) (by show E.fuel < g3+(h2.steps+1);omega))
    have HDO:=Lib.hid hdo
    have SS2:=Lib.hid S2.out
    clear hdo S2 t0 t1 t2
    have lF2:=cell_lt y0
    go_wp2_with fail
    refine (tryP (w0:=wr) (b11:=w5.heap.size) (b12:=wr.heap.size) (b13:=wr.heap.size+1) SS2.out (by exact Rd.byB) ⟨Nat.le_refl _,by simp;omega⟩ ⟨by omega,by simp⟩ (by omega) (by go_simp) (by go_simp) (by go_simp) (by go_simp) (by go_simp) (by go_simp) (by go_simp) ou (fun W hb=>HDO.out W _ _ (SS2.out.below (Below.trans (by exact Rd.byB) (hb.mono Rd.byL))))).mono ?_
    rintro e w6 R
    cases ou with
    | go fr' h' =>
     obtain ⟨rfl,z12,A⟩:=R
     have hok:h2.steps < E.fuel∧OutOk SfB E.f E.input E.fuel m { h2 with steps:=h2.steps+1 } (.go fr' h'):=by
      rcases outS_ok (g:=g3) (d:=d+1) KM hmm HO2.out SO2.out with ⟨c,h9,e9⟩ | q
      ·rw [hou.out] at e9;cases e9
      ·rw [hou.out] at q;exact q
     obtain ⟨hq1,⟨hq2,_,hq3⟩,hq4⟩:=hok
     have hrn:loop SM E.f E.input E.fuel g3 (d+1) m fr' h'=r:=by
      have e:=HR2.out
      rw [loop_out sm_same,hou.out] at e
      exact e
     have c7a:=SS2.out.H.c7
     obtain ⟨L4,v4,G4,S4⟩:=A.opn
     have c7b:=S4.H.c7
     have hq3':h2.steps+1≤h'.steps:=hq3
     have HX1:=Lib.hid (show Gr E L P (.slice none 0 0) W9 L4 v4 w6 from G2.out.trans G4)
     have HX2:=Lib.hid S4
     have HX3:=Lib.hid hrn
     have HX4:=Lib.hid hq2
     have HX5:=Lib.hid hq4
     clear A G4 S4 hrn hq2 hq4 hq3
     go_wp2_with fail
     refine ⟨⟨L4,h',fr',v4,g3,HX1,HX2,HX4,HX5,HX3,by omega⟩,?_⟩
     rw [c7a,c7b]
     simp only [Int.toNat_natCast]
     omega
    | back v h' =>
     obtain ⟨rfl,z12,z130,z131,st,A⟩:=R
     have hrn:r=.ok v h':=by
      have e:=HR2.out
      rw [loop_out sm_same,hou.out] at e
      exact e.symm
     obtain ⟨vk,vn⟩:=v
     simp only at z130 z131
     have A9:=Lib.hid (G2.out.comp A)
     obtain ⟨L4,v4,G4,S4⟩:=A9.out.opn
     obtain ⟨q0,n0⟩:=hlow.out _ _ (by omega) (by omega) X0.out
     obtain ⟨q2,n2⟩:=hlow.out _ _ (by omega) (by omega) X2.out
     have b0c:=((q0.next G4.kp n0) 0 (by simp)).1
     have r0:=((q2.next G4.kp n2) 0 (by simp)).1
     have r1:=((q2.next G4.kp n2) 1 (by simp)).1
     have f0:=((q2.next G4.kp n2) 0 (by simp)).2
     have f1:=((q2.next G4.kp n2) 1 (by simp)).2
     simp only [List.getElem_cons_zero,List.getElem_cons_succ] at b0c r0 r1
     have A10:=Lib.hid (Lft.ofS2 HH.out K9.out gw.1 gw.2 A9.out.stop (b:=w.heap.size+1+1) (by omega) (by omega) (.int .i64 vk) (.int .i64 vn))
     clear A G4 S4 q0 q2 n0 n2
     have l0:=cell_lt b0c
     have l2:=cell_lt r0
     have nh:w.heap.size+1+1≠E.hb:=by have:=HH.out.hbw;omega
     have nh2:=nh.symm
     go_wp2_with fail
     obtain ⟨L5,K5,N5,H5⟩:=A10.out
     refine leaves_cons (f:=99) (args:=#[.pointer (some ⟨w.heap.size,0,none⟩)]) (by simp) (by simp [go_sem]) ?_
     refine (leaveP w.heap.size _ H5 hd1 (by go_simp)).mono ?_
     rintro e u' w'' ⟨rfl,rfl,rfl⟩
     simp [Leaves,settle,results,Tryz.results50,go_sem,r0,r1,l2,nh,nh2]
     have hret:=Lib.hid (show InvR E L d w r (Ending.returned (.agg #[.int .i64 vk,.int .i64 vn])) ((((w6.setCell ⟨w.heap.size+1+1,0,none⟩ (.int .i64 vk)).setCell ⟨w.heap.size+1+1,1,none⟩ (.int .i64 vn)).setCell ⟨E.hb,10,none⟩ (.int .i64 d))) from by
      rw [hrn]
      exact ⟨rfl,Lft.deep ⟨L5,K5,N5,H5⟩ d⟩)
     exact hret.out
    | thrown o h' =>
     obtain ⟨rfl,z12,st,L4,v4,G4a,S4a,nb12⟩:=R
     have hok:h2.steps < E.fuel∧OutOk SfB E.f E.input E.fuel m { h2 with steps:=h2.steps+1 } (.thrown o h'):=by
      rcases outS_ok (g:=g3) (d:=d+1) KM hmm HO2.out SO2.out with ⟨c,h9,e9⟩ | q
      ·rw [hou.out] at e9;cases e9
      ·rw [hou.out] at q;exact q
     obtain ⟨hq1,⟨hq2,hqo,hq3⟩,hq4⟩:=hok
     have hq3':h2.steps+1≤h'.steps:=hq3
     have c7a:=SS2.out.H.c7
     have GX:=Lib.hid (show Gr E L P (.slice none 0 0) W9 L4 v4 w6 from G2.out.trans G4a)
     obtain ⟨q0,n0⟩:=hlow.out _ _ (by omega) (by omega) X0.out
     obtain ⟨q1,n1⟩:=hlow.out _ _ (by omega) (by omega) X1.out
     have b0c:=((q0.next GX.out.kp n0) 0 (by simp)).1
     have mX:=q1.next GX.out.kp n1
     have m0:=(mX 0 (by simp)).1
     have m1:=(mX 1 (by simp)).1
     have m2:=(mX 2 (by simp)).1
     have m3:=(mX 3 (by simp)).1
     have m4:=(mX 4 (by simp)).1
     have m5:=(mX 5 (by simp)).1
     have m6:=(mX 6 (by simp)).1
     have m7:=(mX 7 (by simp)).1
     simp only [List.getElem_cons_zero,List.getElem_cons_succ] at b0c m0 m1 m2 m3 m4 m5 m6 m7
     have y1':=G4a.cell nfF2 y1
     have y2':=G4a.cell nfF2 y2
     have SX:=Lib.hid S4a
     have shX:=Lib.hid (show Sl 4 EHd w6 E.B (.slice ha' m.handlers.length hcap) m.handlers from by
      obtain ⟨L5,K5,_,_⟩:=Lft.ofS K9.out gw.1 gw.2 (GX.out.lft S4a).stop
      obtain ⟨vp9,vc9,vh9,e9,_,_,_,shs9⟩:=HVM.out
      simp at e9
      obtain ⟨_,_,rfl⟩:=e9
      exact shs9.mono mHd (K5.below hEB (fun k hk=>(own_lo HH.out hk).1)) (Nat.le_refl _))
     obtain ⟨x,hx⟩:∃ x,Hid (handler E.f.classes m fr.at_ (obj h' o).cls=x):=⟨_,Lib.hid rfl⟩
     have l0:=cell_lt b0c
     have l1:=cell_lt m0
     have l5:=cell_lt y1'
     have l12:=cell_lt z12
     clear q0 q1 n0 n1 mX G4a S4a
     cases x with
     | none =>
      have hrr:r=.thrown o h':=by
       have ea:after SM E.f m fr o h'=.thrown:=by
        unfold after
        rw [show SM.at_ fr=fr.at_ from rfl,hx.out]
       have e:=HR2.out
       rw [loop_out sm_same,hou.out] at e
       simp only [ea] at e
       exact e.symm
      go_wp2_with fail
      refine wp_region_noPanic ?_
      refine Drawn.hd (fun w'=>w'.cell? ⟨w.heap.size,0,none⟩=some (.pointer (some ⟨E.hb,0,none⟩))∧w'.cell? ⟨w.heap.size+1,0,none⟩=some (.slice pa m.params.length pcap)∧w'.cell? ⟨w.heap.size+1,1,none⟩=some (.int .i64 m.ret.kind)∧w'.cell? ⟨w.heap.size+1,2,none⟩=some (.int .i64 m.ret.cls)∧w'.cell? ⟨w.heap.size+1,3,none⟩=some (.int .i64 m.stack)∧w'.cell? ⟨w.heap.size+1,4,none⟩=some (.int .i64 m.locals)∧w'.cell? ⟨w.heap.size+1,5,none⟩=some (.int .i64 m.regs)∧w'.cell? ⟨w.heap.size+1,6,none⟩=some (.slice ca m.code.length ccap)∧w'.cell? ⟨w.heap.size+1,7,none⟩=some (.slice ha' m.handlers.length hcap)∧w'.cell? ⟨w5.heap.size,1,none⟩=some (.func (.func 55) #[.pointer (some ⟨P.cb,0,none⟩)] #[])) (h:=fun hHeld=>?_)
      refine Drawn.T 0 (some 66) (h:=?_)
      refine Drawn.T 1 (some 67) (h:=?_)
      refine Drawn.T 2 (some 68) (h:=?_)
      refine Drawn.T 3 (some 69) (h:=?_)
      refine Drawn.T 5 (some 71) (h:=?_)
      refine Drawn.cl 4 (fun K hK=>?_)
      go_simp
      refine (atP (SX.out.below (w':=w6.drew) (by exact Rd.byB))).mono ?_
      rintro e w7 ⟨rfl,rfl⟩
      go_wp2_with fail
      refine Drawn.bk hK (h:=fun hHeld=>?_)
      clear hK K
      refine Drawn.cl 6 (fun K hK=>?_)
      go_simp
      refine (caughtP (SX.out.below (w':=w6.drew) (by exact Rd.byB)).H hq4 FS.may m (shX.out.mono mHd (by exact Rd.byB) (Nat.le_refl _)) fr.at_ (.tuple #[.int .i64 0,.bool false]) (by rw [hx.out];rfl)).mono ?_
      rintro e w8 ⟨rfl,hb8⟩
      have kk:∀ (b o:Nat) (u:Value),World.cell? _ ⟨b,o,none⟩=some u→w8.cell? ⟨b,o,none⟩=some u:=fun b o u hc=>kept hb8 (cell_lt hc) hc
      have v0:=kk w.heap.size 0 _ b0c
      have v10:=kk (w.heap.size+1) 0 _ m0
      have v11:=kk (w.heap.size+1) 1 _ m1
      have v12:=kk (w.heap.size+1) 2 _ m2
      have v13:=kk (w.heap.size+1) 3 _ m3
      have v14:=kk (w.heap.size+1) 4 _ m4
      have v15:=kk (w.heap.size+1) 5 _ m5
      have v16:=kk (w.heap.size+1) 6 _ m6
      have v17:=kk (w.heap.size+1) 7 _ m7
      have va:=kk w5.heap.size 1 _ y1'
      have vb:=kk w5.heap.size 2 _ y2'
      have zb:=kk wr.heap.size 0 _ z12
      have HB8:=Lib.hid (show Below w6.heap.size w6 w8 from Below.trans (by exact Rd.byB) (hb8.mono Rd.byL))
      clear kk hb8
      go_wp2_with fail
      refine Drawn.bk hK (hS:=by (try dsimp only);exact ⟨v0,v10,v11,v12,v13,v14,v15,v16,v17,va⟩) (h:=fun hHeld=>?_)
      clear hK K
      refine Drawn.T 7 (some 65) (h:=?_)
      refine Drawn.T 8 (some 73) (h:=?_)
      refine Drawn.T 9 (some 74) (h:=?_)
      refine Drawn.T 10 (some 16) (h:=?_)
      refine Drawn.T 11 (some 17) (h:=?_)
      refine wpAnyH_done (by kernel_rfl) ?_ _
      refine NoPanic.normal ?_
      go_wp2_with fail
      obtain ⟨L5,K5,N5,H5⟩:=Lft.ofS K9.out gw.1 gw.2 ((GX.out.lft SX.out).below HB8.out).stop
      refine leaves_cons (f:=99) (args:=#[.pointer (some ⟨w.heap.size,0,none⟩)]) (by simp) (by simp [go_sem]) ?_
      refine (leaveP w.heap.size _ H5 hd1 v0).mono ?_
      rintro e u' w'' ⟨rfl,rfl,rfl⟩
      have hret:=Lib.hid (show InvR E L d w r (.panicked [{ v:=thrownV o,recovered:=false }]) (w8.setCell ⟨E.hb,10,none⟩ (.int .i64 d)) from by
       rw [hrr]
       exact ⟨Pan.one _,Lft.deep ⟨L5,K5,N5,H5⟩ d⟩)
      exact hret.out
     | some hd =>
      have hhd:=(FS.mes m hmm).hds.2 hd (List.mem_of_find?_eq_some hx.out)
      obtain ⟨lo,hi,go,hcl⟩:=hd
      obtain ⟨ga,rfl⟩:∃ ga:Nat,go=(ga:Int):=by
       simp only [Form.hd,Bool.and_eq_true,decide_eq_true_eq,rng_iff] at hhd
       exact ⟨go.toNat,by omega⟩
      clear hhd
      go_wp2_with fail
      refine wp_region_noPanic ?_
      refine Drawn.hd (fun w'=>w'.cell? ⟨w.heap.size,0,none⟩=some (.pointer (some ⟨E.hb,0,none⟩))∧w'.cell? ⟨w.heap.size+1,0,none⟩=some (.slice pa m.params.length pcap)∧w'.cell? ⟨w.heap.size+1,1,none⟩=some (.int .i64 m.ret.kind)∧w'.cell? ⟨w.heap.size+1,2,none⟩=some (.int .i64 m.ret.cls)∧w'.cell? ⟨w.heap.size+1,3,none⟩=some (.int .i64 m.stack)∧w'.cell? ⟨w.heap.size+1,4,none⟩=some (.int .i64 m.locals)∧w'.cell? ⟨w.heap.size+1,5,none⟩=some (.int .i64 m.regs)∧w'.cell? ⟨w.heap.size+1,6,none⟩=some (.slice ca m.code.length ccap)∧w'.cell? ⟨w.heap.size+1,7,none⟩=some (.slice ha' m.handlers.length hcap)∧w'.cell? ⟨w5.heap.size,1,none⟩=some (.func (.func 55) #[.pointer (some ⟨P.cb,0,none⟩)] #[])) (h:=fun hHeld=>?_)
      refine Drawn.T 0 (some 66) (h:=?_)
      refine Drawn.T 1 (some 67) (h:=?_)
      refine Drawn.T 2 (some 68) (h:=?_)
      refine Drawn.T 3 (some 69) (h:=?_)
      refine Drawn.T 5 (some 71) (h:=?_)
      refine Drawn.cl 4 (fun K hK=>?_)
      go_simp
      refine (atP (SX.out.below (w':=w6.drew) (by exact Rd.byB))).mono ?_
      rintro e w7 ⟨rfl,rfl⟩
      go_wp2_with fail
      refine Drawn.bk hK (h:=fun hHeld=>?_)
      clear hK K
      refine Drawn.cl 6 (fun K hK=>?_)
      go_simp
      refine (caughtP (SX.out.below (w':=w6.drew) (by exact Rd.byB)).H hq4 FS.may m (shX.out.mono mHd (by exact Rd.byB) (Nat.le_refl _)) fr.at_ (.tuple #[.int .i64 ga,.bool true]) (by rw [hx.out];rfl)).mono ?_
      rintro e w8 ⟨rfl,hb8⟩
      have kk:∀ (b o:Nat) (u:Value),World.cell? _ ⟨b,o,none⟩=some u→w8.cell? ⟨b,o,none⟩=some u:=fun b o u hc=>kept hb8 (cell_lt hc) hc
      have v0:=kk w.heap.size 0 _ b0c
      have v10:=kk (w.heap.size+1) 0 _ m0
      have v11:=kk (w.heap.size+1) 1 _ m1
      have v12:=kk (w.heap.size+1) 2 _ m2
      have v13:=kk (w.heap.size+1) 3 _ m3
      have v14:=kk (w.heap.size+1) 4 _ m4
      have v15:=kk (w.heap.size+1) 5 _ m5
      have v16:=kk (w.heap.size+1) 6 _ m6
      have v17:=kk (w.heap.size+1) 7 _ m7
      have va:=kk w5.heap.size 1 _ y1'
      have vb:=kk w5.heap.size 2 _ y2'
      have zb:=kk wr.heap.size 0 _ z12
      have HB8:=Lib.hid (show Below w6.heap.size w6 w8 from Below.trans (by exact Rd.byB) (hb8.mono Rd.byL))
      clear kk hb8
      go_wp2_with fail
      refine Drawn.bk hK (hS:=by (try dsimp only);exact ⟨v0,v10,v11,v12,v13,v14,v15,v16,v17,va⟩) (h:=fun hHeld=>?_)
      clear hK K
      refine Drawn.T 7 (some 65) (h:=?_)
      refine Drawn.T 8 (some 73) (h:=?_)
      refine Drawn.T 9 (some 74) (h:=?_)
      refine Drawn.T 10 (some 16) (h:=?_)
      refine Drawn.T 11 (some 17) (h:=?_)
      refine wpAnyH_done (by kernel_rfl) ?_ _
      refine NoPanic.normal ?_
      go_wp2_with fail
      refine (catchP (SX.out.below HB8.out) ga o).mono ?_
      rintro e w9 (⟨q1,rfl,A⟩ | ⟨q1,rfl,A⟩)
      ·have z:=A.box zb nb12
       have lz:=cell_lt z
       obtain ⟨L6,v6,G6,S6⟩:=A.opn
       have c7b:=S6.H.c7
       have hcg:SM.caught m fr ga o=some ⟨fr.loc,[⟨3,o⟩],ga⟩:=by
        show scaught m fr ga o=_
        unfold scaught
        rw [if_pos q1];rfl
       have ea:after SM E.f m fr o h'=.go ⟨fr.loc,[⟨3,o⟩],ga⟩:=by
        unfold after
        rw [show SM.at_ fr=fr.at_ from rfl,hx.out]
        simp only [Int.toNat_natCast]
        rw [hcg]
       have hrr:loop SM E.f E.input E.fuel g3 (d+1) m ⟨fr.loc,[⟨3,o⟩],ga⟩ h'=r:=by
        have e:=HR2.out
        rw [loop_out sm_same,hou.out] at e
        simp only [ea] at e
        exact e
       have HX1:=Lib.hid (show Gr E L P (.slice none 0 0) W9 L6 v6 w9 from (GX.out.trans (Gr.of_below HB8.out)).trans G6)
       have HX2:=Lib.hid S6
       have HX3:=Lib.hid hrr
       have HX4:=Lib.hid hq2
       have HX5:=Lib.hid (show SfB m h'.objs.length ⟨fr.loc,[⟨3,o⟩],ga⟩ from KM.caught m hmm _ o ga fr _ hq4 hq2.many (KM.mono m _ _ fr hqo SO2.out) hcg)
       clear A G6 S6 hrr hq2 ea hcg hq3
       go_wp2_with fail
       refine ⟨⟨L6,h',_,v6,g3,HX1,HX2,HX4,HX5,HX3,by omega⟩,?_⟩
       rw [c7a,c7b]
       simp only [Int.toNat_natCast]
       omega
      ·have hcg:SM.caught m fr ga o=none:=by
        show scaught m fr ga o=_
        unfold scaught
        rw [if_neg q1]
       have ea:after SM E.f m fr o h'=.stuck:=by
        unfold after
        rw [show SM.at_ fr=fr.at_ from rfl,hx.out]
        simp only [Int.toNat_natCast]
        rw [hcg]
       have hrr:r=.stop 6 h':=by
        have e:=HR2.out
        rw [loop_out sm_same,hou.out] at e
        simp only [ea] at e
        exact e.symm
       obtain ⟨q0,n0⟩:=hlow.out _ _ (by omega) (by omega) X0.out
       have A9:=(GX.out.trans (Gr.of_below HB8.out)).compS A
       obtain ⟨L4',K4,N4,H4⟩:=id A9
       have b0d:=((q0.next K4 n0) 0 (by simp)).1
       simp only [List.getElem_cons_zero] at b0d
       obtain ⟨L5,K5,N5,H5⟩:=Lft.ofS K9.out gw.1 gw.2 A9
       clear q0 n0 K4 N4 H4
       unfold pan
       go_wp2_with fail
       refine leaves_cons (f:=99) (args:=#[.pointer (some ⟨w.heap.size,0,none⟩)]) (by simp) (by simp [go_sem]) ?_
       refine (leaveP w.heap.size _ H5 hd1 b0d).mono ?_
       rintro e u' w'' ⟨rfl,rfl,rfl⟩
       have hret:=Lib.hid (show InvR E L d w r (.panicked [{ v:=stopV 6,recovered:=false }]) (w9.setCell ⟨E.hb,10,none⟩ (.int .i64 d)) from by
        rw [hrr]
        exact ⟨Pan.one _,Lft.deep ⟨L5,K5,N5,H5⟩ d⟩)
       exact hret.out
    | stop c h' =>
     obtain ⟨⟨older,hol,rfl⟩,A⟩:=R
     have hrn:r=.stop c h':=by
      have e:=HR2.out
      rw [loop_out sm_same,hou.out] at e
      exact e.symm
     have A9:=G2.out.compS A
     obtain ⟨q0,n0⟩:=hlow.out _ _ (by omega) (by omega) X0.out
     obtain ⟨L4,K4,N4,H4⟩:=id A9
     have b0c:=((q0.next K4 n0) 0 (by simp)).1
     simp only [List.getElem_cons_zero] at b0c
     have A10:=Lib.hid (Lft.ofS K9.out gw.1 gw.2 A9)
     clear A A9 q0 n0 K4 N4 H4
     go_wp2_with fail
     obtain ⟨L5,K5,N5,H5⟩:=A10.out
     refine leaves_cons (f:=99) (args:=#[.pointer (some ⟨w.heap.size,0,none⟩)]) (by simp) (by simp [go_sem]) ?_
     refine (leaveP w.heap.size _ H5 hd1 b0c).mono ?_
     rintro e u' w'' ⟨rfl,rfl,rfl⟩
     have hret:=Lib.hid (show InvR E L d w r (.panicked ({ v:=stopV c,recovered:=false } :: older)) (w6.setCell ⟨E.hb,10,none⟩ (.int .i64 d)) from by
      rw [hrn]
      exact ⟨⟨older,hol,rfl⟩,Lft.deep ⟨L5,K5,N5,H5⟩ d⟩)
     exact hret.out
end
end Hpw
namespace Hpw
open Num Rd D Run Mem HierW
section
variable {E:Ev}
theorem invOk (FS:FiS E.f) (KM:MachOk SM SfB E.f E.input E.fuel) (hfu:E.fuel≤60000) (hin:E.input.length≤1000):∀ (n d:Nat),d+n=20→∀ (g:Nat) (h:Hp),E.fuel < g+h.steps→InvOk E d g h:=by
 intro n
 induction n with
 | zero =>
  intro d hd g h hg k args h1 hk HO hs hv hl L W mv va X H hmv hva hX
  have M:=FS.mes _ (meAt_mem hk)
  have hEB:E.B≤W.heap.size:=by have:=H.base;omega
  have h4:args.length≤4:=by have:=M.params.1;omega
  obtain ⟨vp,vc,vh,rfl,hrest⟩:=id hmv
  refine invokeP H X args hmv hva _ (fun W2 b3 b4 b5 hb l3 l4 l5 c3 c5 B4=>?_)
  have hva2:=hva.next (X':=X) (Kp.of_below (X:=fun _=>False) hb (Nat.le_refl _)) (fun _ _ e=>e.elim) (fun _ _ e=>e)
  have hmv2:=hmv.mono (hb.mono hEB) (Nat.le_refl _)
  cases hall:allOf E.f.classes h1 args (meAt E.f k).params with
  | false =>
   have e:call SM E.f E.input E.fuel g d (meAt E.f k) args h1=.stop 6 h1:=by unfold call;rw [if_pos hall]
   rw [e]
   exact callBad FS.may (H.below hb) X args hmv2 hva2 hl h4 hv hall _
  | true =>
   have e:call SM E.f E.input E.fuel g d (meAt E.f k) args h1=.stop 5 h1:=by unfold call;rw [if_neg (by rw [hall];simp),if_pos (by omega)]
   rw [e]
   exact callDeep FS.may (H.below hb) X args hmv2 hva2 hl h4 hv hall (by omega) _
 | succ n ih =>
  intro d hd g h hg k args h1 hk HO hs hv hl L W mv va X H hmv hva hX
  have hmem:=meAt_mem hk
  have M:=FS.mes _ hmem
  have hEB:E.B≤W.heap.size:=by have:=H.base;omega
  have h4:args.length≤4:=by have:=M.params.1;omega
  obtain ⟨vp,vc,vh,rfl,hrest⟩:=id hmv
  refine invokeP H X args hmv hva _ (fun W2 b3 b4 b5 hb l3 l4 l5 c3 c5 B4=>?_)
  have hva2:=hva.next (X':=X) (Kp.of_below (X:=fun _=>False) hb (Nat.le_refl _)) (fun _ _ e=>e.elim) (fun _ _ e=>e)
  have hmv2:=hmv.mono (hb.mono hEB) (Nat.le_refl _)
  have nown:∀ b,W.heap.size≤b→¬ own E L b:=fun b hb hk=>by have:=own_lo H hk;omega
  cases hall:allOf E.f.classes h1 args (meAt E.f k).params with
  | false =>
   have e:call SM E.f E.input E.fuel g d (meAt E.f k) args h1=.stop 6 h1:=by unfold call;rw [if_pos hall]
   rw [e]
   exact callBad FS.may (H.below hb) X args hmv2 hva2 hl h4 hv hall _
  | true =>
   have e:call SM E.f E.input E.fuel g d (meAt E.f k) args h1=loop SM E.f E.input E.fuel g (d+1) (meAt E.f k) (SM.enter (meAt E.f k) args) h1:=by unfold call;rw [if_neg (by rw [hall];simp),if_neg (by omega)]
   have hsz:(size args:Int)≤(meAt E.f k).locals:=by
    have:=size_slots args _ hl (fun i hi=>allOf_kind args _ hall i hi (by omega))
    have:=M.locals.1
    omega
   rw [e]
   exact callRun FS.may (H.below hb) X args hmv2 hva2 hl h4 hv hall (by omega) hX M.locals.2 hsz b3 b4 b5 (nown _ l3) (nown _ l4) (nown _ l5) c3 c5 B4 _ HO (KM.enter _ hmem _ args hv hl (fun i hi=>allOf_kind args _ hall i hi (by rw [← hl];exact hi))) g rfl (by omega) FS hmem hfu hin KM (Lib.hid (fun g2 h2 hg2=>ih (d+1) (by omega) g2 h2 hg2))
end
end Hpw
namespace Hpw
open Num Rd D Run Mem HierW
def L0:Lay:=⟨.slice none 0 0,.slice none 0 0,[]⟩
def h0:Hp:=⟨[],[],0,0⟩
section
variable {w:World}{B:Nat}{f:Fi}
theorem phNew {w1:World}{B:Nat}{f:Fi}{input:List Int}{vc vm vi:Value}(hc:Sl 2 ECls w1 B vc f.classes) (hm:Sl 8 EMe w1 B vm f.methods) (hi:Sl 1 EInt w1 B vi input) (hB:B≤w1.heap.size) (fuel:Nat) (T:TypeId) :
  PH ⟨f,input,fuel,w1.heap.size,B,vc,vm,vi⟩ (w1.alloc (.cells #[vc,vm,.int .i64 0,.int .i64 0,.int .i64 0,.slice none 0 0,.int .i64 0,.int .i64 0,.slice none 0 0,vi,.int .i64 0,.int .i64 fuel] T)) L0 h0 0:=by
 have hb:Below B w1 (w1.alloc (.cells #[vc,vm,.int .i64 0,.int .i64 0,.int .i64 0,.slice none 0 0,.int .i64 0,.int .i64 0,.slice none 0 0,vi,.int .i64 0,.int .i64 fuel] T)):=(Below.refl B w1).alloc hB _
 exact ⟨Blk.made w1 [vc,vm,.int .i64 0,.int .i64 0,.int .i64 0,.slice none 0 0,.int .i64 0,.int .i64 0,.slice none 0 0,vi,.int .i64 0,.int .i64 fuel] T,hc.mono mCls hb (Nat.le_refl _),hm.mono mMe hb (Nat.le_refl _),hi.mono mInt hb (Nat.le_refl _),World.ownsRow_nil ..,World.ownsRow_nil ..,rfl,fun i hi=>absurd hi (by simp [L0]),⟨hB,by simp,by simp [L0]⟩,by simp [L0,Value.ownBlock],by simp [L0]⟩
def BeginE (w:World) (c:Int) (e:Ending) (w':World):Prop:=e=.returned (.tuple #[.pointer none,.slice none 0 0,.int .i64 c])∧Below w.heap.size w w'
set_option maxRecDepth 100000 in
theorem begin1 {vf va vi:Value}(Hf:VFi w B vf f) (entry fuel:Int) (hq:entry < 0∨(f.methods.length:Int)≤entry∨fuel < 0∨60000 < fuel):Calls Tryz.prog 21 #[vf,.int .i64 entry,va,vi,.int .i64 fuel] w (BeginE w 4):=by
 obtain ⟨vc,vm,rfl,hc,hm⟩:=Hf
 obtain ⟨a,cap,rfl,k1,k2,_⟩:=hc
 obtain ⟨ma,mcap,rfl,k3,k4,_⟩:=hm
 by_cases q1:entry < 0
 ·clear hq
  go_enter Tryz.func21,Tryz.ntmps21
  go_wp2
  go_ret3
  exact ⟨rfl,by exact Rd.byB⟩
 by_cases q2:(f.methods.length:Int)≤entry
 ·clear hq
  go_enter Tryz.func21,Tryz.ntmps21
  go_wp2
  go_ret3
  exact ⟨rfl,by exact Rd.byB⟩
 by_cases q3:fuel < 0
 ·clear hq
  go_enter Tryz.func21,Tryz.ntmps21
  go_wp2
  go_ret3
  exact ⟨rfl,by exact Rd.byB⟩
 have q4:60000 < fuel:=by omega
 clear hq
 go_enter Tryz.func21,Tryz.ntmps21
 go_wp2
 go_ret3
 exact ⟨rfl,by exact Rd.byB⟩
set_option maxRecDepth 100000 in
theorem begin3 {vf va vi:Value}(Hf:VFi w B vf f) (entry fuel:Int) (q1:¬ entry < 0) (q2:¬ (f.methods.length:Int)≤entry) (q3:¬ fuel < 0) (q4:¬ 60000 < fuel){input:List Int}(hi:Sl 1 EInt w B vi input) (h3:1000 < input.length):Calls Tryz.prog 21 #[vf,.int .i64 entry,va,vi,.int .i64 fuel] w (BeginE w 1):=by
 obtain ⟨vc,vm,rfl,hc,hm⟩:=Hf
 obtain ⟨a,cap,rfl,k1,k2,_⟩:=hc
 obtain ⟨ma,mcap,rfl,k3,k4,_⟩:=hm
 obtain ⟨ia,icap,rfl,k5,k6,_⟩:=hi
 have h3':(1000:Int) < input.length:=by omega
 go_enter Tryz.func21,Tryz.ntmps21
 go_wp2
 go_ret3
 exact ⟨rfl,by exact Rd.byB⟩
set_option maxRecDepth 100000 in
theorem begin4 {vf va vi:Value}(Hf:VFi w B vf f) (hB:B≤w.heap.size) (k:Nat) (hk:k < f.methods.length) (fuel:Int) (q3:¬ fuel < 0) (q4:¬ 60000 < fuel){input args:List Int}(hi:Sl 1 EInt w B vi input) (h3:input.length≤1000) (ha:Sl 1 EInt w B va args) (h4:args.length≠(f.methods[k]).params.length):Calls Tryz.prog 21 #[vf,.int .i64 k,va,vi,.int .i64 fuel] w (BeginE w 3):=by
 obtain ⟨vc,vm,rfl,hc,hm⟩:=Hf
 obtain ⟨a,cap,rfl,k1,k2,_⟩:=hc
 obtain ⟨ma,mcap,rfl,k3,k4,hel⟩:=hm
 obtain ⟨ia,icap,rfl,k5,k6,_⟩:=hi
 obtain ⟨aa,acap,rfl,k7,k8,_⟩:=ha
 obtain ⟨mb,mo,rfl,hmb,vp,vco,vh,m0,m1,m2,m3,m4,m5,m6,m7,mok,hp,hco,hh⟩:=hel k hk
 obtain ⟨pa,pcap,rfl,k9,k10,_⟩:=hp
 have h3':¬ (1000:Int) < input.length:=by omega
 have hk':(k:Int) < f.methods.length:=by omega
 have q1:¬ (k:Int) < 0:=by omega
 have q2:¬ (f.methods.length:Int)≤k:=by omega
 have l1:mb < w.heap.size:=by omega
 have l2:mb < w.heap.size+1:=by omega
 have h4':((args.length:Int) != (f.methods[k].params.length:Int))=true:=by simp;omega
 have h4'':¬ (args.length:Int)=(f.methods[k].params.length:Int):=by omega
 clear hel
 go_enter Tryz.func21,Tryz.ntmps21
 go_wp2
 go_ret3
 exact ⟨rfl,by exact Rd.byB⟩
def argsTo (m:Me) (args:List Int) (n:Nat):List Vl:=(List.zipWith argOf m.params args).take n
def BegR (w:World) (f:Fi) (m:Me) (args input:List Int) (fuel:Int) (vc vm vi:Value) (e:Ending) (w':World):Prop :=
 if m.params.any (fun t=>decide (t.kind=3))=true then BeginE w 3 e w'
 else ∃ (hb:Nat) (vl:Value),e=.returned (.tuple #[.pointer (some ⟨hb,0,none⟩),vl,.int .i64 0])∧PH ⟨f,input,fuel.toNat,hb,w.heap.size,vc,vm,vi⟩ w' L0 h0 0∧VS w' (fun k=>k=hb) vl (List.zipWith argOf m.params args)∧Below w.heap.size w w'
theorem grow_kp {B n size:Nat}{T:TypeId}{v:Value}{xs:List Value}{wr W w2:World}(hW:Below wr.heap.size wr W) (hown:wr.ownsRow B T size v n xs) (hg:W.grownBy w2 v.ownBlock):Kp (fun k=>B≤k) wr w2 :=
 (kpB hW).trans (Kp.of_grown (X:=fun k=>B≤k) hg (fun k e=>(World.ownsRow.lt hown k e).1)) (fun _ h=>.inl h)
theorem vsRow {base:Nat}{T:TypeId}{X:Nat→Prop}{v:Value}{l:List Vl}(H:w.ownsRow base T 2 v l.length (vcells l)) (hX:∀ k,X k→k < base):VS w X v l:=by
 by_cases h0:0 < l.length
 ·obtain ⟨g,cap,hv,c1,c2,c3,c4⟩:=row_form H h0
  rw [hv] at H ⊢
  refine ⟨_,cap,rfl,c1,c2,fun i hi=>⟨g,0,rfl,fun hx=>by have:=hX g hx;omega,?_,?_⟩⟩
  ·have:=row_cell H (vcells_get l i hi).1
   rw [Nat.zero_add,this,List.getD_eq_getElem?_getD,List.getElem?_eq_getElem hi];rfl
  ·have:=row_cell H (vcells_get l i hi).2
   rw [Nat.zero_add,this,List.getD_eq_getElem?_getD,List.getElem?_eq_getElem hi];rfl
 ·have hl:l=[]:=List.eq_nil_of_length_eq_zero (by omega)
  subst hl
  obtain ⟨a,cap,hv⟩:=row_any H
  rcases H.2 with ⟨hn,_⟩ | ⟨g,cap',cur,hv',_,_,_,hm,_⟩
  ·rw [hn];exact VS.nil _ _
  ·rw [hv'];exact VS.zero (by unfold maxLen at hm;exact hm)
theorem argsTo_succ {m:Me}{args:List Int}{n:Nat}(h1:n < m.params.length) (h2:n < args.length):argsTo m args (n+1)=argsTo m args n++[argOf m.params[n] args[n]]:=by
 unfold argsTo
 rw [List.take_succ_eq_append_getElem (by simp;omega)]
 simp
set_option maxRecDepth 100000 in
theorem begin5 {vc vm va vi:Value}(hc:Sl 2 ECls w B vc f.classes) (hm:Sl 8 EMe w B vm f.methods) (hB:B≤w.heap.size) (k:Nat) (hk:k < f.methods.length) (fuel:Int) (q3':¬ fuel < 0) (q4:¬ 60000 < fuel){input args:List Int}(hi:Sl 1 EInt w B vi input) (h3:input.length≤1000) (ha:Sl 1 EInt w B va args) (h4:args.length=(f.methods[k]).params.length) (h5:(f.methods[k]).params.length≤4) (hty:∀ t∈(f.methods[k]).params,t.kind=1∨t.kind=2∨t.kind=3):Calls Tryz.prog 21 #[.agg #[vc,vm],.int .i64 k,va,vi,.int .i64 fuel] w (BegR w f f.methods[k] args input fuel vc vm vi):=by
 obtain ⟨io,hi',hy0,hy1,hy2⟩:=info_parts info_valP
 obtain ⟨fu,rfl⟩:∃ n:Nat,fuel=(n:Int):=⟨fuel.toNat,by omega⟩
 have HCL:=Lib.hid hc
 have HME:=Lib.hid hm
 have HIN:=Lib.hid hi
 have HTY:=Lib.hid hty
 obtain ⟨a,cap,rfl,k1,k2,_⟩:=hc
 obtain ⟨ma,mcap,rfl,k3,k4,hel⟩:=hm
 obtain ⟨ia,icap,rfl,k5,k6,_⟩:=hi
 obtain ⟨aa,acap,rfl,k7,k8,hea⟩:=ha
 obtain ⟨mb,mo,rfl,hmb,vp,vco,vh,m0,m1,m2,m3,m4,m5,m6,m7,mok,hp,hco,hh⟩:=hel k hk
 obtain ⟨pa,pcap,rfl,k9,k10,hep⟩:=hp
 have h3':¬ (1000:Int) < input.length:=by omega
 have hk':(k:Int) < f.methods.length:=by omega
 have q1:¬ (k:Int) < 0:=by omega
 have q2:¬ (f.methods.length:Int)≤k:=by omega
 have l1:mb < w.heap.size:=by omega
 have l2:mb < w.heap.size+1:=by omega
 have hea':=Lib.hid hea
 have hep':=Lib.hid hep
 obtain ⟨np,hnp⟩:∃ np,np=f.methods[k].params.length:=⟨_,rfl⟩
 have h4':args.length=np:=by omega
 have h4'':((args.length:Int) != (f.methods[k].params.length:Int))=false:=by simp;omega
 clear hel hea hep hty
 go_enter Tryz.func21,Tryz.ntmps21
 go_wp2
 go_loopw [13,56] (fun v i wr=>∃ n:Nat,i=.int .i64 n∧n≤np∧Below w.heap.size w wr∧w.heap.size+1≤wr.heap.size∧Hid (wr.ownsRow (w.heap.size+1) 46 2 v n (vcells (argsTo f.methods[k] args n)))∧wr.cell? ⟨w.heap.size,0,none⟩=some (.slice a f.classes.length cap)∧wr.cell? ⟨w.heap.size,1,none⟩=some (.slice (some ⟨mb,mo,none⟩) f.methods.length mcap)∧Hid (∀ j (hj:j < f.methods[k].params.length),j < n→(f.methods[k].params[j]).kind≠3)) (fun _ i _=>np - (intOf i).toNat)
 case atStart=>exact ⟨0,rfl,Nat.zero_le _,by exact Rd.byB,by simp,World.ownsRow_nil _ _ _ _,by go_simp,by go_simp,fun j _ h=>absurd h (by omega)⟩
 case round =>
  obtain ⟨n,rfl,hn,hb,hsz,HR,x0,x1,hall⟩:=hrel
  by_cases hlt:n < np
  ·have hl1:n < f.methods[k].params.length:=by omega
   have hl2:n < args.length:=by omega
   obtain ⟨pb,po,rfl,hpb,p0,p1,_⟩:=hep'.out n hl1
   obtain ⟨ab,ao,rfl,hab,z0,_⟩:=hea'.out n hl2
   have l3:pb < w.heap.size:=by omega
   have l4:ab < w.heap.size:=by omega
   have p0':=kept hb l3 p0
   have p1':=kept hb l3 p1
   rw [Nat.mul_one] at z0
   have z0':=kept hb l4 z0
   obtain ⟨t,ht⟩:=at_of hl1
   obtain ⟨x,hx⟩:=at_of hl2
   rw [ht.out] at p0' p1'
   rw [hx.out] at z0'
   have htk:t.kind=1∨t.kind=2∨t.kind=3:=by have:=HTY.out _ (List.getElem_mem hl1);rwa [ht.out] at this
   have hww:wrap64 (wrap32 x)=wrap32 x:=wrap64_id (wrap32_ok x)
   have hn1:(n:Int) < args.length:=by omega
   have hn2:(n:Int) < f.methods[k].params.length:=by omega
   have l5:pb < wr.heap.size:=Nat.lt_of_lt_of_le l3 hb.size
   have l6:ab < wr.heap.size:=Nat.lt_of_lt_of_le l4 hb.size
   have l7:w.heap.size < wr.heap.size:=by omega
   clear p0 p1 z0 m0 m1 m2 m3 m4 m5 m6 m7
   by_cases q3:t.kind=3
   ·have hif:=Lib.hid (List.any_eq_true.2 ⟨_,List.getElem_mem hl1,by rw [ht.out];simpa using q3⟩:f.methods[k].params.any (fun t=>decide (t.kind=3))=true)
    rw [q3] at p0'
    clear q3 htk
    go_wp2
    go_ret3
    unfold BegR
    rw [if_pos hif.out]
    exact ⟨rfl,by exact Rd.byB⟩
   rcases htk with q1 | q1 | q1
   ·have q1h:=Lib.hid q1
    rw [q1] at p0'
    clear q1
    go_wp2_with (at_builtin;refine wpList_append_lies _ rfl (.tmp 65) (.tmp 73) 41 rfl (w.heap.size+1) 46 io (.agg #[.int .i64 0,.int .i64 0]) 2 16 Tryz.underlying41 hi' hy0 hy1 hy2 rfl (by decide) u13 n (vcells (argsTo f.methods[k] args n)) (by simp [Act.eval,Act.put]) (row_keep HR.out (kpB (X:=fun _=>False) (w0:=wr) (by exact Rd.byB)) (fun g _ e=>e)) ⟨wr.heap.size+1,0,none⟩ 1 1 [.int .i64 1,.int .i64 (wrap32 x)] (by simp [Act.eval,Act.put]) rfl (by exact news_of (by simp)) (by simp [Value.oneCell']) (by decide) (by unfold maxLen;omega) (by omega) (by simp;omega) _ rfl ?_;intro g2 cap2 w3 hown3 hgrow3 hat3 hlt3;have KG:=grow_kp (by exact Rd.byB) HR.out hgrow3;have e0:=KG.cell x0 (by omega);have e1:=KG.cell x1 (by omega);have hsz3:=KG.size;replace KG:=Lib.hid KG;replace hown3:=Lib.hid hown3;clear hgrow3 hat3)
    refine ⟨⟨n+1,by go_num,hlt,hb.trans (KG.out.below (by omega) (fun k hk=>by omega)),by omega,?_,e0,e1,fun j hj hjn=>?_⟩,by simp only [intOf];omega⟩
    ·have ea:=argsTo_succ (m:=f.methods[k]) (args:=args) hl1 hl2
     rw [ht.out,hx.out] at ea
     have eb:argOf t x=⟨1,wrap32 x⟩:=by unfold argOf;rw [if_pos q1h.out]
     rw [eb] at ea
     rw [ea,vcells_append]
     exact hown3
    ·by_cases hjn2:j < n
     ·exact hall.out j hj hjn2
     ·obtain rfl:j=n:=by omega
      rw [ht.out];exact q3
   ·have q1h:=Lib.hid q1
    rw [q1] at p0'
    clear q1
    go_wp2_with (at_builtin;refine wpList_append_lies _ rfl (.tmp 77) (.tmp 83) 41 rfl (w.heap.size+1) 46 io (.agg #[.int .i64 0,.int .i64 0]) 2 16 Tryz.underlying41 hi' hy0 hy1 hy2 rfl (by decide) u13 n (vcells (argsTo f.methods[k] args n)) (by simp [Act.eval,Act.put]) (row_keep HR.out (kpB (X:=fun _=>False) (w0:=wr) (by exact Rd.byB)) (fun g _ e=>e)) ⟨wr.heap.size+1,0,none⟩ 1 1 [.int .i64 2,.int .i64 x] (by simp [Act.eval,Act.put]) rfl (by exact news_of (by simp)) (by simp [Value.oneCell']) (by decide) (by unfold maxLen;omega) (by omega) (by simp;omega) _ rfl ?_;intro g2 cap2 w3 hown3 hgrow3 hat3 hlt3;have KG:=grow_kp (by exact Rd.byB) HR.out hgrow3;have e0:=KG.cell x0 (by omega);have e1:=KG.cell x1 (by omega);have hsz3:=KG.size;replace KG:=Lib.hid KG;replace hown3:=Lib.hid hown3;clear hgrow3 hat3)
    refine ⟨⟨n+1,by go_num,hlt,hb.trans (KG.out.below (by omega) (fun k hk=>by omega)),by omega,?_,e0,e1,fun j hj hjn=>?_⟩,by simp only [intOf];omega⟩
    ·have ea:=argsTo_succ (m:=f.methods[k]) (args:=args) hl1 hl2
     rw [ht.out,hx.out] at ea
     have eb:argOf t x=⟨2,x⟩:=by unfold argOf;rw [if_neg (by rw [q1h.out];decide),q1h.out]
     rw [eb] at ea
     rw [ea,vcells_append]
     exact hown3
    ·by_cases hjn2:j < n
     ·exact hall.out j hj hjn2
     ·obtain rfl:j=n:=by omega
      rw [ht.out];exact q3
   ·exact absurd q1 q3
  ·have hn1:¬ (n:Int) < args.length:=by omega
   obtain rfl:n=np:=by omega
   go_wp2
   go_ret3
   have hb0:Below B w wr:=(kpB (X:=fun _=>False) hb).below hB (fun _ e=>e.elim)
   have hnone:¬ (f.methods[k].params.any (fun t=>decide (t.kind=3))=true):=fun he=>by
    obtain ⟨t,ht,h3⟩:=List.any_eq_true.1 he
    obtain ⟨j,hj,rfl⟩:=List.getElem_of_mem ht
    exact hall.out j hj (by omega) (by simpa using h3)
   unfold BegR
   rw [if_neg hnone]
   have hlen:(List.zipWith argOf f.methods[k].params args).length=n:=by rw [List.length_zipWith];omega
   have ea:argsTo f.methods[k] args n=List.zipWith argOf f.methods[k].params args:=by unfold argsTo;rw [← hlen,List.take_length]
   have HR':=HR.out
   rw [ea] at HR'
   have HR2:wr.ownsRow (w.heap.size+1) 46 2 u13 (List.zipWith argOf f.methods[k].params args).length (vcells (List.zipWith argOf f.methods[k].params args)):=by rw [hlen];exact HR'
   have V:=vsRow (X:=fun _=>False) HR2 (fun _ e=>e.elim)
   refine ⟨wr.heap.size,u13,rfl,phNew (HCL.out.mono mCls hb0 hB) (HME.out.mono mMe hb0 hB) (HIN.out.mono mInt hb0 hB) hb.size fu _,V.next (kpB (X:=fun _=>False) (by exact Rd.byB)) (fun _ _ e=>e) (fun b hlt e=>by omega),hb.trans ((kpB (X:=fun _=>False) (w0:=wr) (by exact Rd.byB)).below hb.size (fun _ e=>e.elim))⟩
end
end Hpw
namespace Hpw
open Num Rd D Run Mem HierW
section
variable {E:Ev}{w w' w0 w1 w2 W:World}{L L' L1:Lay}{h h' h1 h2:Hp}{d:Nat}
def shc (E:Ev) (L:Lay) (h:Hp) (d:Nat) (x y z:Int):List Value:=[E.vc,E.vm,.int .i64 x,.int .i64 y,.int .i64 z,L.vo,.int .i64 h.used,.int .i64 h.steps,L.vb,E.vi,.int .i64 d,.int .i64 E.fuel]
set_option maxRecDepth 100000 in
theorem asS1 (c:Int) (w:World):(Instr.typeAssert (.iface 88 (.agg #[.int .i64 c])) 20 88 true).run Tryz.prog w=.ok (.tuple #[.agg #[.int .i64 c],.bool true]) w:=by kernel_rfl
set_option maxRecDepth 100000 in
theorem asS2 (o:Int) (w:World):(Instr.typeAssert (.iface 90 (.agg #[.int .i64 o])) 20 88 true).run Tryz.prog w=.ok (.tuple #[.agg #[.int .i64 0],.bool false]) w:=by kernel_rfl
theorem runsIdle (p:Addr) (w:World):CallsD Tryz.prog 49 #[.pointer (some p)] .returning w fun e u' w'=>e=.returned (.tuple #[])∧u'=.returning∧w'=w:=by
 refine callsD_of_wpS Tryz.func49 rfl fun c₀ cs hu=>?_
 apply wpS_seq
 apply wpS_region
 simp [wpOpsS,go_sem,recoverD,hu,Tryz.ntmps49,Exit.thenS]
 rw [show (Array.replicate 38 undef:Array Value)=#[undef,undef,undef,undef,undef,undef,undef,undef,undef,undef,undef,undef,undef,undef,undef,undef,undef,undef,undef,undef,undef,undef,undef,undef,undef,undef,undef,undef,undef,undef,undef,undef,undef,undef,undef,undef,undef,undef] from rfl]
 simp only [List.setIfInBounds_toArray,List.set_cons_succ,List.set_cons_zero,List.append_toArray,List.cons_append,List.nil_append]
 refine wpS_of_wp ?_
 go_wp2
 all_goals (cases c₀;simp_all [bodyPostS,results,Tryz.results49])
set_option maxRecDepth 100000 in
theorem runsStop (H:PH E w L h d) (b0:Nat) (c:Int) (older:List PanicEntry) (c0:w.cell? ⟨b0,0,none⟩=some (.pointer (some ⟨E.hb,0,none⟩))) :
  CallsD Tryz.prog 49 #[.pointer (some ⟨b0,0,none⟩)] (.panicking ({ v:=stopV c,recovered:=false } :: older)) w fun e u' w' =>
   e=.returned (.tuple #[])∧u'=.panicking ({ v:=stopV c,recovered:=true } :: older)∧Kp (fun k=>k=E.hb) w w'∧Blk w' E.hb (shc E L h d c 0 0):=by
 have hta:=asS1 c
 have c2:=(H.cells 2 (by simp)).1
 have f2:=(H.cells 2 (by simp)).2
 simp only [List.getElem_cons_zero,List.getElem_cons_succ] at c2
 have hb0:=cell_lt c0
 have hhb:=H.hbw
 have HH:=Lib.hid H
 clear H
 unfold stopV
 refine callsD_of_wpS Tryz.func49 rfl fun c₀ cs hu=>?_
 apply wpS_seq
 apply wpS_region
 simp [wpOpsS,go_sem,recoverD,hu,Tryz.ntmps49,Exit.thenS]
 rw [show (Array.replicate 38 undef:Array Value)=#[undef,undef,undef,undef,undef,undef,undef,undef,undef,undef,undef,undef,undef,undef,undef,undef,undef,undef,undef,undef,undef,undef,undef,undef,undef,undef,undef,undef,undef,undef,undef,undef,undef,undef,undef,undef,undef,undef] from rfl]
 simp only [List.setIfInBounds_toArray,List.set_cons_succ,List.set_cons_zero,List.append_toArray,List.cons_append,List.nil_append]
 refine wpS_of_wp ?_
 go_wp2
 simp [bodyPostS,results,Tryz.results49]
 refine ⟨((Kp.refl (fun k=>k=E.hb) w).setCell (p:=⟨E.hb,2,none⟩) (.inl rfl) _).alloc _,?_⟩
 exact (HH.out.cells.set 2 (by simp) (.int .i64 c)).alloc _
set_option maxRecDepth 100000 in
theorem runsThrown (H:PH E w L h d) (b0 o:Nat) (ho:o < h.objs.length) (older:List PanicEntry) (c0:w.cell? ⟨b0,0,none⟩=some (.pointer (some ⟨E.hb,0,none⟩))) :
  CallsD Tryz.prog 49 #[.pointer (some ⟨b0,0,none⟩)] (.panicking ({ v:=thrownV o,recovered:=false } :: older)) w fun e u' w' =>
   e=.returned (.tuple #[])∧u'=.panicking ({ v:=thrownV o,recovered:=true } :: older)∧Kp (fun k=>k=E.hb) w w'∧Blk w' E.hb (shc E L h d 2 0 (obj h o).cls):=by
 have hta:=asS2 o
 have hta2:=assertT o
 obtain ⟨g,cap,hvb,q1,q2,hg,hgne,o1,_⟩:=H.ob (n:=o) (by omega) (by omega)
 have c2:=(H.cells 2 (by simp)).1
 have f2:=(H.cells 2 (by simp)).2
 have c4:=(H.cells 4 (by simp)).1
 have f4:=(H.cells 4 (by simp)).2
 have c8:=H.c8
 simp only [List.getElem_cons_zero,List.getElem_cons_succ] at c2 c4
 rw [hvb] at c8
 rw [Int.toNat_natCast] at o1
 have hb0:=cell_lt c0
 have hhb:=H.hbw
 have hoi:(o:Int) < h.objs.length:=by omega
 have HH:=Lib.hid H
 have HVB:=Lib.hid hvb
 clear H hvb
 unfold thrownV
 refine callsD_of_wpS Tryz.func49 rfl fun c₀ cs hu=>?_
 apply wpS_seq
 apply wpS_region
 simp [wpOpsS,go_sem,recoverD,hu,Tryz.ntmps49,Exit.thenS]
 rw [show (Array.replicate 38 undef:Array Value)=#[undef,undef,undef,undef,undef,undef,undef,undef,undef,undef,undef,undef,undef,undef,undef,undef,undef,undef,undef,undef,undef,undef,undef,undef,undef,undef,undef,undef,undef,undef,undef,undef,undef,undef,undef,undef,undef,undef] from rfl]
 simp only [List.setIfInBounds_toArray,List.set_cons_succ,List.set_cons_zero,List.append_toArray,List.cons_append,List.nil_append]
 refine wpS_of_wp ?_
 go_wp2
 go_region
 go_wp2
 simp [bodyPostS,results,Tryz.results49]
 have B:=HH.out.cells
 refine ⟨((((Kp.refl (fun k=>k=E.hb) w).setCell (p:=⟨E.hb,2,none⟩) (.inl rfl) _).setCell (p:=⟨E.hb,4,none⟩) (.inl rfl) _).alloc _).drew,?_⟩
 exact (((B.set 2 (by simp) (.int .i64 2)).set 4 (by simp) (.int .i64 (obj h o).cls)).alloc _).drew
def RunsR (E:Ev) (L:Lay) (w:World) (s:Sh) (e:Ending) (w':World):Prop :=
 e=.returned (.tuple #[])∧Kp (own E L) w w'∧∃ vo,Blk w' E.hb [E.vc,E.vm,.int .i64 s.fin,.int .i64 s.value,.int .i64 s.cls,vo,.int .i64 s.used,.int .i64 s.steps]∧w'.ownsRow E.B 2 1 vo s.out.length (s.out.map (.int .i64 ·))
theorem runsR_of {w2:World}{x y z:Int}(K1:Kp (own E L) w w1) (H1:PH E w1 L1 h 0) (K2:Kp (fun k=>k=E.hb) w1 w2) (B2:Blk w2 E.hb (shc E L1 h 0 x y z)):RunsR E L w ⟨x,y,z,h.out,h.used,h.steps⟩ (.returned (.tuple #[])) w2:=by
 refine ⟨rfl,K1.trans K2 (fun y hy=>by subst hy;exact .inl (.inl rfl)),L1.vo,fun j hj=>?_,row_keep H1.out K2 (fun g hg e=>by subst e;exact H1.apart.1 hg)⟩
 match j,hj with
 | 0,_=>exact B2 0 (by simp [shc])
 | 1,_=>exact B2 1 (by simp [shc])
 | 2,_=>exact B2 2 (by simp [shc])
 | 3,_=>exact B2 3 (by simp [shc])
 | 4,_=>exact B2 4 (by simp [shc])
 | 5,_=>exact B2 5 (by simp [shc])
 | 6,_=>exact B2 6 (by simp [shc])
 | 7,_=>exact B2 7 (by simp [shc])
 | n+8,hj=>exact absurd hj (by simp)
end
end Hpw
namespace Hpw
open Num Rd D Run Mem HierW
section
variable {E:Ev}{w w' w0 w1 w2 W:World}{L L' L1:Lay}{h h' h1 h2:Hp}{d B:Nat}{f:Fi}
theorem keptf {B:Nat}{w w':World}{b o:Nat}{x:Bool}(hb:Below B w w') (hlt:b < B) (h:w.frozen? ⟨b,o,none⟩=x):w'.frozen? ⟨b,o,none⟩=x:=(World.frozen?_of_block (a:=⟨b,o,none⟩) (hb.block b hlt)).trans h
def ShV (w:World) (B:Nat) (s:Sh) (v:Value):Prop:=∃ vo,v=.agg #[.int .i64 s.fin,.int .i64 s.value,.int .i64 s.cls,vo,.int .i64 s.used,.int .i64 s.steps]∧w.ownsRow B 2 1 vo s.out.length (s.out.map (.int .i64 ·))
def RunA (w:World) (s:Sh) (c:Int) (e:Ending) (w':World):Prop:=∃ v,e=.returned (.tuple #[v,.int .i64 c])∧ShV w' w.heap.size s v∧Below w.heap.size w w'
theorem begR {W w2:World}{m:Me}{args input:List Int}{fuel:Int}{vc vm vi:Value}{e:Ending}(hno:m.params.any (fun t=>decide (t.kind=3))=false) (h:BegR W f m args input fuel vc vm vi e w2) :
  ∃ (E:Ev) (vl:Value),e=.returned (.tuple #[.pointer (some ⟨E.hb,0,none⟩),vl,.int .i64 0])∧(E.f=f∧E.input=input∧E.fuel=fuel.toNat∧E.B=W.heap.size∧E.vm=vm)∧PH E w2 L0 h0 0∧VS w2 (own E L0) vl (List.zipWith argOf m.params args)∧Below W.heap.size W w2:=by
 unfold BegR at h
 rw [if_neg (by rw [hno];simp)] at h
 obtain ⟨hb,vl,rfl,H,V,hbl⟩:=h
 refine ⟨_,vl,rfl,⟨rfl,rfl,rfl,rfl,rfl⟩,H,V.mono (fun b _ hx=>?_),hbl⟩
 rcases hx with e | e | e | e
 ·exact e
 ·cases e
 ·cases e
 ·exact absurd e (by simp [L0])
theorem fiH0 {input:List Int}{fuel:Nat}:HpOk f.classes input fuel h0:=⟨Nat.zero_le _,(fun o ho=>by cases ho),(fun x hx=>by cases hx),Nat.le_refl _,Nat.zero_le _,Nat.zero_le _⟩
theorem argOf_vt {nc:Int}{t:Ty}{n:Int}(ht:Hier.ty nc t=true) (h3:t.kind≠3) (hn:Ok n):VtOk 0 (argOf t n):=by
 unfold Hier.ty at ht
 unfold argOf
 split at ht
 ·rename_i e
  by_cases e1:t.kind=1
  ·rw [if_pos e1]
   exact ⟨⟨wrap32_ok n,by simp,by simp,by simp⟩,by simp,by simp⟩
  ·rw [if_neg e1]
   refine ⟨⟨hn,?_,?_,?_⟩,?_,?_⟩ <;> simp only <;> omega
 ·exact absurd ht (by simp [h3])
end
end Hpw
namespace Hpw
open Num Rd D Run Mem HierW
section
variable {E:Ev}{w w' w1 w2:World}{L L' L1:Lay}{h h' h1 h2:Hp}{d:Nat}
set_option maxRecDepth 100000 in
theorem firstP (H:PH E w L h d) (k:Nat) (hk:k < E.f.methods.length) (b0 b1 b2 b3:Nat) (va:Value) (r:Res Vl) (c0:w.cell? ⟨b0,0,none⟩=some (.pointer (some ⟨E.hb,0,none⟩))) (c1:w.cell? ⟨b1,1,none⟩=some E.vm) (c2:w.cell? ⟨b2,0,none⟩=some (.int .i64 k)) (c3:w.cell? ⟨b3,0,none⟩=some va)
  (hC:∀ (W:World) (mv:Value),Below w.heap.size w W→VMe W E.B mv (meAt E.f k)→Calls Tryz.prog 24 #[.pointer (some ⟨E.hb,0,none⟩),mv,va] W (InvR E L d W r)) :
  Calls Tryz.prog 23 #[.pointer (some ⟨b0,0,none⟩),.pointer (some ⟨b1,0,none⟩),.pointer (some ⟨b2,0,none⟩),.pointer (some ⟨b3,0,none⟩)] w (InvR E L d w r):=by
 have HH:=Lib.hid H
 have HC:=Lib.hid hC
 obtain ⟨ma,mcap,hvm,q1,q2,hel⟩:=H.mes
 obtain ⟨mb,mo,hma,hmb,vp,vco,vh,m0,m1,m2,m3,m4,m5,m6,m7,mok,hp,hco,hh⟩:=hel k hk
 subst hma
 have em:E.f.methods[k]=meAt E.f k:=by unfold meAt;rw [List.getD_eq_getElem?_getD,List.getElem?_eq_getElem hk];rfl
 rw [em] at m1 m2 m3 m4 m5 mok hp hco hh
 rw [hvm] at c1
 have hEB:E.B≤w.heap.size:=by have:=H.base;omega
 have VM:=Lib.hid (show VMe w E.B (.agg #[vp,.int .i64 (meAt E.f k).ret.kind,.int .i64 (meAt E.f k).ret.cls,.int .i64 (meAt E.f k).stack,.int .i64 (meAt E.f k).locals,.int .i64 (meAt E.f k).regs,vco,vh]) (meAt E.f k) from ⟨_,_,_,rfl,mok,hp,hco,hh⟩)
 obtain ⟨pa,pcap,rfl,_⟩:=id hp
 obtain ⟨ca,ccap,rfl,_⟩:=id hco
 obtain ⟨xa,xcap,rfl,_⟩:=id hh
 have hk':(k:Int) < E.f.methods.length:=by omega
 have l0:=cell_lt c0
 have l1:=cell_lt c1
 have l2:=cell_lt c2
 have l3:=cell_lt c3
 have l4:=cell_lt m0
 clear H hC hp hco hh mok hel hvm
 obtain ⟨me,hme⟩:∃ me,Hid (meAt E.f k=me):=⟨_,Lib.hid rfl⟩
 go_enter Tryz.func23,Tryz.ntmps23
 rw [hme.out] at VM HC m0 m1 m2 m3 m4 m5 m6 m7
 clear hme em
 go_wp2_with fail
 generalize hW1:w.alloc (.cells #[.int .i64 0,.int .i64 0] 46)=W1
 replace hW1:=Lib.hid hW1
 have HB1:=Lib.hid (show Below w.heap.size w W1 from by rw [← hW1.out];exact Rd.byB)
 have x0:W1.cell? ⟨w.heap.size,0,none⟩=some (.int .i64 0):=by rw [← hW1.out];go_simp
 have x1:W1.cell? ⟨w.heap.size,1,none⟩=some (.int .i64 0):=by rw [← hW1.out];go_simp
 have f0:W1.frozen? ⟨w.heap.size,0,none⟩=false:=by rw [← hW1.out];go_simp
 have f1:W1.frozen? ⟨w.heap.size,1,none⟩=false:=by rw [← hW1.out];go_simp
 replace c0:=kept HB1.out l0 c0
 replace c1:=kept HB1.out l1 c1
 replace c2:=kept HB1.out l2 c2
 replace c3:=kept HB1.out l3 c3
 replace m0:=kept HB1.out l4 m0
 replace m1:=kept HB1.out l4 m1
 replace m2:=kept HB1.out l4 m2
 replace m3:=kept HB1.out l4 m3
 replace m4:=kept HB1.out l4 m4
 replace m5:=kept HB1.out l4 m5
 replace m6:=kept HB1.out l4 m6
 replace m7:=kept HB1.out l4 m7
 have hw1:=HB1.out.size
 have hlt1:=cell_lt x0
 replace l0:=cell_lt c0
 replace l1:=cell_lt c1
 replace l2:=cell_lt c2
 replace l3:=cell_lt c3
 replace l4:=cell_lt m0
 go_still_tail 7,(by kernel_rfl)
 go_wp2_with fail
 go_at_call 24
 have HB2:=Lib.hid (show Below w.heap.size w W1.drew from HB1.out.trans (by exact Rd.byB))
 refine (HC.out _ _ HB2.out (VM.out.mono (Below.mono HB2.out hEB) (Nat.le_refl _))).mono ?_
 rintro e w5 R
 have nr:¬ own E L w.heap.size:=fun hk=>by have:=(own_lo HH.out hk).2;omega
 cases r with
 | thrown o h2 =>
  obtain ⟨⟨older,hol,rfl⟩,A⟩:=R
  refine And.intro rfl ?_
  exact ⟨⟨older,hol,rfl⟩,A.before HB2.out⟩
 | stop c h2 =>
  obtain ⟨⟨older,hol,rfl⟩,A⟩:=R
  refine And.intro rfl ?_
  exact ⟨⟨older,hol,rfl⟩,A.before HB2.out⟩
 | ok v h2 =>
  obtain ⟨vk,vn⟩:=v
  obtain ⟨rfl,A⟩:=R
  have y0:=A.cell (b:=w.heap.size) (o:=0) (v:=.int .i64 0) (by go_simp) nr
  have y1:=A.cell (b:=w.heap.size) (o:=1) (v:=.int .i64 0) (by go_simp) nr
  have g0:=A.frz (b:=w.heap.size) (o:=0) (x:=false) (by exact hlt1) (by go_simp) nr
  have g1:=A.frz (b:=w.heap.size) (o:=1) (x:=false) (by exact hlt1) (by go_simp) nr
  have hlt:=cell_lt y0
  unfold vl
  replace A:=Lib.hid A
  go_wp2_with fail
  refine bodyPost_ret (v:=.agg #[.int .i64 vk,.int .i64 vn]) (by simp [results,Tryz.results23,go_sem] <;> go_simp) rfl ?_
  exact ⟨rfl,A.out.res2 HH.out HB2.out (by omega) hlt1 _ _⟩
set_option maxRecDepth 100000 in
theorem runsP (H:PH E w L h 0) (p0 p1 p2 p3:Value) (r:Res Vl) (hcall:Calls Tryz.prog 23 #[p0,p1,p2,p3] (w.alloc (.cells #[.pointer (some ⟨E.hb,0,none⟩)] 40)) (InvR E L 0 (w.alloc (.cells #[.pointer (some ⟨E.hb,0,none⟩)] 40)) r)) (hth:∀ o h',r=.thrown o h'→o < h'.objs.length) :
  Calls Tryz.prog 22 #[.pointer (some ⟨E.hb,0,none⟩),.func (.func 23) #[] #[p0,p1,p2,p3]] w (RunsR E L w (shown r)):=by
 have HH:=Lib.hid H
 have HC:=Lib.hid hcall
 have nr:¬ own E L w.heap.size:=fun hk=>by have:=(own_lo H hk).2;omega
 have hmf:∀ (fn:Fn) (first cap:Array Value) (w:World),(Instr.makeFunc fn first cap).run Tryz.prog w=.ok (.func fn first cap) w:=fun _ _ _ _=>rfl
 clear H hcall
 go_enter_defers Tryz.func22,Tryz.ntmps22
 go_wp2_with fail
 refine HC.out.mono ?_
 rintro e w2 R
 cases r with
 | thrown o h2 =>
  obtain ⟨⟨older,hol,rfl⟩,A⟩:=R
  have ho:=hth o h2 rfl
  have b0:=A.cell (b:=w.heap.size) (o:=0) (v:=.pointer (some ⟨E.hb,0,none⟩)) (by go_simp) nr
  obtain ⟨L1,K1,N1,H1⟩:=A.before (w:=w) (by exact Rd.byB)
  have hdw:=drop_all older hol
  go_wp2_with fail
  refine leaves_cons (f:=49) (args:=#[.pointer (some ⟨w.heap.size,0,none⟩)]) (by simp) (by simp [go_sem]) ?_
  refine (runsThrown H1 w.heap.size o ho older b0).mono ?_
  rintro e u' w'' ⟨rfl,rfl,K2,B2⟩
  simp [Leaves,settle,hdw,results,Tryz.results22,go_sem]
  exact runsR_of K1 H1 K2 B2
 | stop c h2 =>
  obtain ⟨⟨older,hol,rfl⟩,A⟩:=R
  have b0:=A.cell (b:=w.heap.size) (o:=0) (v:=.pointer (some ⟨E.hb,0,none⟩)) (by go_simp) nr
  obtain ⟨L1,K1,N1,H1⟩:=A.before (w:=w) (by exact Rd.byB)
  have hdw:=drop_all older hol
  go_wp2_with fail
  refine leaves_cons (f:=49) (args:=#[.pointer (some ⟨w.heap.size,0,none⟩)]) (by simp) (by simp [go_sem]) ?_
  refine (runsStop H1 w.heap.size c older b0).mono ?_
  rintro e u' w'' ⟨rfl,rfl,K2,B2⟩
  simp [Leaves,settle,hdw,results,Tryz.results22,go_sem]
  exact runsR_of K1 H1 K2 B2
 | ok v h2 =>
  obtain ⟨vk,vn⟩:=v
  obtain ⟨rfl,A⟩:=R
  have b0:=A.cell (b:=w.heap.size) (o:=0) (v:=.pointer (some ⟨E.hb,0,none⟩)) (by go_simp) nr
  obtain ⟨L1,K1,N1,H1⟩:=A.before (w:=w) (by exact Rd.byB)
  have c2:=(H1.cells 2 (by simp)).1
  have f2:=(H1.cells 2 (by simp)).2
  have c3:=(H1.cells 3 (by simp)).1
  have f3:=(H1.cells 3 (by simp)).2
  simp only [List.getElem_cons_zero,List.getElem_cons_succ] at c2 c3
  have hhb:=H1.hbw
  have hlt:=cell_lt b0
  have nb:w.heap.size≠E.hb:=by have:=HH.out.hbw;omega
  have nb2:=nb.symm
  unfold vl
  have H1h:=Lib.hid H1
  clear H1 A
  by_cases q1:vk=1
  ·subst q1
   go_wp2_with fail
   refine leaves_cons (f:=49) (args:=#[.pointer (some ⟨w.heap.size,0,none⟩)]) (by simp) (by simp [go_sem]) ?_
   refine (runsIdle _ _).mono ?_
   rintro e u' w'' ⟨rfl,rfl,rfl⟩
   simp [Leaves,settle,results,Tryz.results22,go_sem]
   have hsh:shown (.ok ⟨1,vn⟩ h2)=⟨1,vn,0,h2.out,h2.used,h2.steps⟩:=by simp [shown]
   rw [hsh]
   refine runsR_of K1 H1h.out ((((Kp.refl (fun k=>k=E.hb) w2).setCell (p:=⟨E.hb,2,none⟩) (.inl rfl) _).setCell (p:=⟨E.hb,3,none⟩) (.inl rfl) _).alloc _) ?_
   exact ((H1h.out.cells.set 2 (by simp) (.int .i64 1)).set 3 (by simp) (.int .i64 vn)).alloc _
  by_cases q2:vk=2
  ·subst q2
   go_wp2_with fail
   refine leaves_cons (f:=49) (args:=#[.pointer (some ⟨w.heap.size,0,none⟩)]) (by simp) (by simp [go_sem]) ?_
   refine (runsIdle _ _).mono ?_
   rintro e u' w'' ⟨rfl,rfl,rfl⟩
   simp [Leaves,settle,results,Tryz.results22,go_sem]
   have hsh:shown (.ok ⟨2,vn⟩ h2)=⟨1,vn,0,h2.out,h2.used,h2.steps⟩:=by simp [shown]
   rw [hsh]
   refine runsR_of K1 H1h.out ((((Kp.refl (fun k=>k=E.hb) w2).setCell (p:=⟨E.hb,2,none⟩) (.inl rfl) _).setCell (p:=⟨E.hb,3,none⟩) (.inl rfl) _).alloc _) ?_
   exact ((H1h.out.cells.set 2 (by simp) (.int .i64 1)).set 3 (by simp) (.int .i64 vn)).alloc _
  ·have q1b:(vk==1)=false:=by simpa using q1
   have q2b:(vk==2)=false:=by simpa using q2
   go_wp2_with fail
   refine leaves_cons (f:=49) (args:=#[.pointer (some ⟨w.heap.size,0,none⟩)]) (by simp) (by simp [go_sem]) ?_
   refine (runsIdle _ _).mono ?_
   rintro e u' w'' ⟨rfl,rfl,rfl⟩
   simp [Leaves,settle,results,Tryz.results22,go_sem]
   have hsh:shown (.ok ⟨vk,vn⟩ h2)=⟨1,0,0,h2.out,h2.used,h2.steps⟩:=by simp [shown,q1,q2]
   rw [hsh]
   refine runsR_of K1 H1h.out (((Kp.refl (fun k=>k=E.hb) w2).setCell (p:=⟨E.hb,2,none⟩) (.inl rfl) _).alloc _) ?_
   exact (H1h.out.cells.set 2 (by simp) (.int .i64 1)).alloc _
end
end Hpw
namespace FormW
open Num Rd D HierW
theorem methodV (f:Fi) (m:Me) (p:Bool) (vf vm:Value) (w:World) (hp:Form.sme f m=p) (hf:VFi w w.heap.size vf f) (hm:VMe w w.heap.size vm m) :
  Calls Tryz.prog 48 #[vf,vm] w fun e w'=>e=.returned (.bool p)∧Below w.heap.size w w':=by
 subst hp;exact method f m vf vm w hf hm
set_option maxRecDepth 100000 in
theorem smay (f:Fi) (vf:Value) (w:World) (hf:VFi w w.heap.size vf f) :
  Calls Tryz.prog 20 #[vf] w fun e w'=>e=.returned (.bool (Form.smay f))∧Below w.heap.size w w':=by
 have hf0:=hf
 obtain ⟨vc,vme,rfl,hcs,⟨ma,mcap,rfl,mlc,mcc,mel⟩⟩:=hf
 obtain ⟨ph,hph⟩:∃ p,Hid (Hier.may f.classes=p):=⟨_,rfl⟩
 obtain ⟨pn,hpn⟩:∃ p,Hid (Form.rng f.methods.length 1 9=p):=⟨_,rfl⟩
 have hall0:Hid (Form.smay f=(ph && pn && f.methods.all (Form.sme f))):=by
  show _=_
  rw [← hph.out,← hpn.out];rfl
 cases ph <;> cases pn
 all_goals go_enter Tryz.func20,Tryz.ntmps20
 all_goals go_wp2_with (first
  | (go_at_call 46;refine (mayV _ _ _ _ hph.out (Cs.next hcs Rd.byB)).mono ?_;rintro e w1 ⟨rfl,hb1⟩;have hw1:Below w.heap.size w w1:=Below.trans Rd.byB (hb1.mono (by simp));have y0:w1.cell? ⟨w.heap.size,0,none⟩=some vc:=kept hb1 (by simp) (by go_simp);have y1:w1.cell? ⟨w.heap.size,1,none⟩=some (.slice ma f.methods.length mcap):=kept hb1 (by simp) (by go_simp))
  | (go_at_call 47;refine (sinV _ _ _ _ _ hpn.out).mono ?_;rintro e w2 ⟨rfl,rfl⟩))
 all_goals first
  | (
       go_ret
       exact ⟨ret_bool (by rw [hall0.out];simp),hw1⟩)
  | skip
 have hws:=hw1.size
 have nn:w.heap.size < w1.heap.size:=by have:=lt_cell y0;omega
 go_loopw [19] (fun i wr=>∃ k:Nat,k≤f.methods.length∧i=.int .i64 k∧Below w1.heap.size w1 wr∧Hid (∀ j (h:j < f.methods.length),j < k→Form.sme f f.methods[j]=true)) (fun i _=>f.methods.length - (intOf i).toNat)
 case atStart=>exact ⟨0,by omega,rfl,Rd.byB,fun j _ h=>absurd h (by omega)⟩
 case round =>
  obtain ⟨k,hk,rfl,hq,hall⟩:=hrel
  have hqs:=hq.size
  have hwr:Below w.heap.size w wr:=hw1.trans (hq.mono hws)
  have hwrs:=hwr.size
  have n3:w.heap.size < wr.heap.size:=by omega
  have c1:=kept hq (by omega) y0
  have c2:=kept hq (by omega) y1
  clear y0 y1
  by_cases hlt:k < f.methods.length
  ·obtain ⟨b,o,rfl,hb,he⟩:=mel k hlt
   have hyes:=Lib.hid (Form.all_step (p:=Form.sme f) hall.out hlt)
   have hno:=Lib.hid (Form.all_not (p:=Form.sme f) hlt)
   obtain ⟨t,ht⟩:=at_of hlt
   rw [ht.out] at he hyes hno
   obtain ⟨vp,vd,vh,g0,g1,g2,g3,g4,g5,g6,g7,oks,s1,s2,s3⟩:=he
   have hvm:VMe w w.heap.size (.agg #[vp,.int .i64 t.ret.kind,.int .i64 t.ret.cls,.int .i64 t.stack,.int .i64 t.locals,.int .i64 t.regs,vd,vh]) t:=⟨vp,vd,vh,rfl,oks,s1,s2,s3⟩
   obtain ⟨pa,pcap,rfl,_,_,_⟩:=s1
   obtain ⟨da,dcap,rfl,_,_,_⟩:=s2
   obtain ⟨ha,hcap,rfl,_,_,_⟩:=s3
   have k0:=kept hwr hb g0
   have k1:=kept hwr hb g1
   have k2:=kept hwr hb g2
   have k3:=kept hwr hb g3
   have k4:=kept hwr hb g4
   have k5:=kept hwr hb g5
   have k6:=kept hwr hb g6
   have k7:=kept hwr hb g7
   obtain ⟨p,hp⟩:∃ p,Hid (Form.sme f t=p):=⟨_,rfl⟩
   have hq2:=Lib.hid hq
   have hwr2:=Lib.hid hwr
   clear mel g0 g1 g2 g3 g4 g5 g6 g7
   cases p
   all_goals go_wp2_with (go_at_call 48;refine (methodV f t _ _ _ _ hp.out (hf0.mono Rd.byB (by simp;omega)) (hvm.mono Rd.byB (by simp;omega))).mono ?_;rintro e w6 ⟨rfl,hb6⟩;have hw6:Below wr.heap.size wr w6:=Below.trans Rd.byB (hb6.mono (by simp)))
   ·go_ret
    exact ⟨ret_bool (by rw [hall0.out];simp [hno.out hp.out]),hwr2.out.trans (hw6.mono hwrs)⟩
   ·go_roundw
    case rel=>exact ⟨k+1,by omega,by go_num,hq2.out.trans (hw6.mono hqs),hyes.out hp.out⟩
    case measure=>simp [intOf];omega
  ·have hst:=Lib.hid (Form.all_of (p:=Form.sme f) (fun j hj=>hall.out j hj (by omega)))
   clear hall mel
   go_wp2
   go_ret
   exact ⟨ret_bool (by rw [hall0.out,hst.out];rfl),hwr⟩
end FormW
namespace FormW
open Num Rd D HierW
theorem smayV (f:Fi) (p:Bool) (vf:Value) (w:World) (hp:Form.smay f=p) (hf:VFi w w.heap.size vf f) :
  Calls Tryz.prog 20 #[vf] w fun e w'=>e=.returned (.bool p)∧Below w.heap.size w w':=by
 subst hp;exact smay f vf w hf
end FormW
namespace Hpw
open Num Rd D Run Mem HierW
section
variable {w:World}{B:Nat}{f:Fi}{E:Ev}{L:Lay}{d:Nat}
set_option maxRecDepth 100000 in
theorem runN {vf va vi:Value}(Hf:VFi w w.heap.size vf f) (hmay:Form.smay f=false) (entry fuel:Int):Calls Tryz.prog 7 #[vf,.int .i64 entry,va,vi,.int .i64 fuel] w (RunA w Sh.nil 2):=by
 have Hf':=Lib.hid Hf
 obtain ⟨vc,vm,rfl,hc,hm⟩:=Hf
 obtain ⟨a1,c1,rfl,_⟩:=hc
 obtain ⟨a2,c2,rfl,_⟩:=hm
 obtain ⟨n1,hn1⟩:∃ n,n=f.classes.length:=⟨_,rfl⟩
 obtain ⟨n2,hn2⟩:∃ n,n=f.methods.length:=⟨_,rfl⟩
 rw [← hn1,← hn2] at Hf' ⊢
 have HM:=Lib.hid hmay
 clear hmay hn1 hn2
 go_enter Tryz.func7,Tryz.ntmps7
 go_wp2_with fail
 refine (FormW.smayV f _ _ _ HM.out (Hf'.out.mono (by exact Rd.byB) (by simp <;> omega))).mono ?_
 rintro e w1 ⟨rfl,hb1⟩
 have a0:w1.cell? ⟨w.heap.size,0,none⟩=some (.slice a1 n1 c1):=kept hb1 Rd.byL (by go_simp)
 have a1':w1.cell? ⟨w.heap.size,1,none⟩=some (.slice a2 n2 c2):=kept hb1 Rd.byL (by go_simp)
 have a2':w1.cell? ⟨w.heap.size+1,0,none⟩=some (.int .i64 entry):=kept hb1 Rd.byL (by go_simp)
 have y0:w1.cell? ⟨w.heap.size+1+1,0,none⟩=some (.int .i64 0):=kept hb1 Rd.byL (by go_simp)
 have f0:w1.frozen? ⟨w.heap.size+1+1,0,none⟩=false:=keptf hb1 Rd.byL (by go_simp)
 have y1:w1.cell? ⟨w.heap.size+1+1,1,none⟩=some (.int .i64 0):=kept hb1 Rd.byL (by go_simp)
 have f1:w1.frozen? ⟨w.heap.size+1+1,1,none⟩=false:=keptf hb1 Rd.byL (by go_simp)
 have y2:w1.cell? ⟨w.heap.size+1+1,2,none⟩=some (.int .i64 0):=kept hb1 Rd.byL (by go_simp)
 have f2:w1.frozen? ⟨w.heap.size+1+1,2,none⟩=false:=keptf hb1 Rd.byL (by go_simp)
 have y3:w1.cell? ⟨w.heap.size+1+1,3,none⟩=some (.slice none 0 0):=kept hb1 Rd.byL (by go_simp)
 have f3:w1.frozen? ⟨w.heap.size+1+1,3,none⟩=false:=keptf hb1 Rd.byL (by go_simp)
 have y4:w1.cell? ⟨w.heap.size+1+1,4,none⟩=some (.int .i64 0):=kept hb1 Rd.byL (by go_simp)
 have f4:w1.frozen? ⟨w.heap.size+1+1,4,none⟩=false:=keptf hb1 Rd.byL (by go_simp)
 have y5:w1.cell? ⟨w.heap.size+1+1,5,none⟩=some (.int .i64 0):=kept hb1 Rd.byL (by go_simp)
 have f5:w1.frozen? ⟨w.heap.size+1+1,5,none⟩=false:=keptf hb1 Rd.byL (by go_simp)
 have hbw:Below w.heap.size w w1:=Below.trans (by exact Rd.byB) (hb1.mono (by simp <;> omega))
 have hsz:w.heap.size+3≤w1.heap.size:=by have:=hb1.size;simp at this;omega
 have ly:=cell_lt y0
 clear hb1
 go_wp2_with fail
 refine bodyPost_ret (v:=.tuple #[.agg #[.int .i64 0,.int .i64 0,.int .i64 0,.slice none 0 0,.int .i64 0,.int .i64 0],.int .i64 2]) (by simp [results,Tryz.results7,go_sem] <;> go_simp) rfl ?_
 exact ⟨_,rfl,⟨_,rfl,World.ownsRow_nil _ _ _ _⟩,by exact Rd.byB⟩
set_option maxRecDepth 100000 in
theorem runE {vf va vi:Value}(Hf:VFi w w.heap.size vf f) (hmay:Form.smay f=true) (entry fuel c:Int) (hc0:c≠0) (hbg:∀ W,Below w.heap.size w W→Calls Tryz.prog 21 #[vf,.int .i64 entry,va,vi,.int .i64 fuel] W (BeginE W c)):Calls Tryz.prog 7 #[vf,.int .i64 entry,va,vi,.int .i64 fuel] w (RunA w Sh.nil c):=by
 have Hf':=Lib.hid Hf
 have HBG:=Lib.hid hbg
 obtain ⟨vc,vm,rfl,hc,hm⟩:=Hf
 obtain ⟨a1,c1,rfl,_⟩:=hc
 obtain ⟨a2,c2,rfl,_⟩:=hm
 obtain ⟨n1,hn1⟩:∃ n,n=f.classes.length:=⟨_,rfl⟩
 obtain ⟨n2,hn2⟩:∃ n,n=f.methods.length:=⟨_,rfl⟩
 rw [← hn1,← hn2] at Hf' HBG ⊢
 have HM:=Lib.hid hmay
 clear hmay hn1 hn2
 clear hbg
 have hcb:(c != 0)=true:=by simpa using hc0
 go_enter Tryz.func7,Tryz.ntmps7
 go_wp2_with fail
 refine (FormW.smayV f _ _ _ HM.out (Hf'.out.mono (by exact Rd.byB) (by simp <;> omega))).mono ?_
 rintro e w1 ⟨rfl,hb1⟩
 have a0:w1.cell? ⟨w.heap.size,0,none⟩=some (.slice a1 n1 c1):=kept hb1 Rd.byL (by go_simp)
 have a1':w1.cell? ⟨w.heap.size,1,none⟩=some (.slice a2 n2 c2):=kept hb1 Rd.byL (by go_simp)
 have a2':w1.cell? ⟨w.heap.size+1,0,none⟩=some (.int .i64 entry):=kept hb1 Rd.byL (by go_simp)
 have y0:w1.cell? ⟨w.heap.size+1+1,0,none⟩=some (.int .i64 0):=kept hb1 Rd.byL (by go_simp)
 have f0:w1.frozen? ⟨w.heap.size+1+1,0,none⟩=false:=keptf hb1 Rd.byL (by go_simp)
 have y1:w1.cell? ⟨w.heap.size+1+1,1,none⟩=some (.int .i64 0):=kept hb1 Rd.byL (by go_simp)
 have f1:w1.frozen? ⟨w.heap.size+1+1,1,none⟩=false:=keptf hb1 Rd.byL (by go_simp)
 have y2:w1.cell? ⟨w.heap.size+1+1,2,none⟩=some (.int .i64 0):=kept hb1 Rd.byL (by go_simp)
 have f2:w1.frozen? ⟨w.heap.size+1+1,2,none⟩=false:=keptf hb1 Rd.byL (by go_simp)
 have y3:w1.cell? ⟨w.heap.size+1+1,3,none⟩=some (.slice none 0 0):=kept hb1 Rd.byL (by go_simp)
 have f3:w1.frozen? ⟨w.heap.size+1+1,3,none⟩=false:=keptf hb1 Rd.byL (by go_simp)
 have y4:w1.cell? ⟨w.heap.size+1+1,4,none⟩=some (.int .i64 0):=kept hb1 Rd.byL (by go_simp)
 have f4:w1.frozen? ⟨w.heap.size+1+1,4,none⟩=false:=keptf hb1 Rd.byL (by go_simp)
 have y5:w1.cell? ⟨w.heap.size+1+1,5,none⟩=some (.int .i64 0):=kept hb1 Rd.byL (by go_simp)
 have f5:w1.frozen? ⟨w.heap.size+1+1,5,none⟩=false:=keptf hb1 Rd.byL (by go_simp)
 have hbw:Below w.heap.size w w1:=Below.trans (by exact Rd.byB) (hb1.mono (by simp <;> omega))
 have hsz:w.heap.size+3≤w1.heap.size:=by have:=hb1.size;simp at this;omega
 have ly:=cell_lt y0
 clear hb1
 go_wp2_with fail
 refine (HBG.out _ hbw).mono ?_
 rintro e w2 ⟨rfl,hb2⟩
 replace y0:=kept hb2 ly y0
 replace f0:=keptf hb2 ly f0
 replace y1:=kept hb2 ly y1
 replace f1:=keptf hb2 ly f1
 replace y2:=kept hb2 ly y2
 replace f2:=keptf hb2 ly f2
 replace y3:=kept hb2 ly y3
 replace f3:=keptf hb2 ly f3
 replace y4:=kept hb2 ly y4
 replace f4:=keptf hb2 ly f4
 replace y5:=kept hb2 ly y5
 replace f5:=keptf hb2 ly f5
 have hbw2:=hbw.trans (hb2.mono (by omega))
 have ly2:=cell_lt y0
 have ly3:w.heap.size+1+1 < w2.heap.size+1:=by omega
 have ly4:w.heap.size+1+1 < w2.heap.size+1+1:=by omega
 clear hb2
 go_wp2_with fail
 refine bodyPost_ret (v:=.tuple #[.agg #[.int .i64 0,.int .i64 0,.int .i64 0,.slice none 0 0,.int .i64 0,.int .i64 0],.int .i64 c]) (by simp [results,Tryz.results7,go_sem] <;> go_simp) rfl ?_
 have hsz2:=hbw2.size
 have hfin:∀ (W:World) (j:Nat) (u:Value),Below w.heap.size w W→Below w.heap.size w (W.setCell ⟨w.heap.size+1+1,j,none⟩ u):=fun W j u h=>h.setCell (by show w.heap.size≤w.heap.size+1+1;omega) _
 have hal:∀ (W:World) (o:Obj),Below w.heap.size w W→Below w.heap.size w (W.alloc o):=fun W o h=>h.alloc h.size _
 refine ⟨_,rfl,⟨_,rfl,World.ownsRow_nil _ _ _ _⟩,?_⟩
 repeat (first | with_reducible exact hbw2 | with_reducible apply hal | with_reducible apply hfin)
set_option maxRecDepth 100000 in
theorem runO {vf va vi:Value}{input args:List Int}{fuel:Int}(S:FiS f) (MO:MachOk SM SfB f input fuel.toNat) (Hf:VFi w w.heap.size vf f) (hmay:Form.smay f=true) (k:Nat) (hk:k < f.methods.length) (q3:¬ fuel < 0) (q4:¬ 60000 < fuel) (hi:Sl 1 EInt w w.heap.size vi input) (h3:input.length≤1000) (ha:Sl 1 EInt w w.heap.size va args) (h4:args.length=(f.methods[k]).params.length) (hno:(f.methods[k]).params.any (fun t=>decide (t.kind=3))=false) (hv:∀ v∈List.zipWith argOf (f.methods[k]).params args,VtOk 0 v) :
  Calls Tryz.prog 7 #[vf,.int .i64 k,va,vi,.int .i64 fuel] w (RunA w (shown (call SM f input fuel.toNat (fuel.toNat+1) 0 (meAt f k) (List.zipWith argOf (f.methods[k]).params args) h0)) 0):=by
 have em:f.methods[k]=meAt f k:=by unfold meAt;rw [List.getD_eq_getElem?_getD,List.getElem?_eq_getElem hk];rfl
 have Hf':=Lib.hid Hf
 have MM:=S.mes _ (List.getElem_mem hk)
 have hty:∀ t∈(f.methods[k]).params,t.kind=1∨t.kind=2∨t.kind=3:=fun t ht=>by
  have:=MM.params.2 t ht
  unfold Hier.ty at this
  split at this
  ·rename_i q;omega
  ·split at this
   ·rename_i q;omega
   ·cases this
 obtain ⟨vc,vm,rfl,hc,hm⟩:=Hf
 have HBEG:∀ W:World,Below w.heap.size w W→Calls Tryz.prog 21 #[.agg #[vc,vm],.int .i64 k,va,vi,.int .i64 fuel] W (BegR W f f.methods[k] args input fuel vc vm vi):=fun W hW=>begin5 (hc.mono mCls hW (Nat.le_refl _)) (hm.mono mMe hW (Nat.le_refl _)) hW.size k hk fuel q3 q4 (hi.mono mInt hW (Nat.le_refl _)) h3 (ha.mono mInt hW (Nat.le_refl _)) h4 MM.params.1 hty
 have HCO:CallOk f input fuel.toNat (meAt f k) h0 (call SM f input fuel.toNat (fuel.toNat+1) 0 (meAt f k) (List.zipWith argOf (f.methods[k]).params args) h0):=call_ok MO _ _ _ _ _ (meAt_mem hk) fiH0 hv (by rw [List.length_zipWith,h4,← em];omega)
 have HIV:∀ (E:Ev),(E.f=f∧E.input=input∧E.fuel=fuel.toNat)→∀ (W:World) (mv vl:Value),PH E W L0 h0 0→VMe W E.B mv (meAt f k)→VS W (own E L0) vl (List.zipWith argOf (f.methods[k]).params args)→Calls Tryz.prog 24 #[.pointer (some ⟨E.hb,0,none⟩),mv,vl] W (InvR E L0 0 W (call SM f input fuel.toNat (fuel.toNat+1) 0 (meAt f k) (List.zipWith argOf (f.methods[k]).params args) h0)):=fun E hE W mv vl H hmv V=>by
  obtain ⟨rfl,rfl,hEf⟩:=hE
  rw [← hEf] at MO ⊢
  exact invOk S MO (by omega) h3 20 0 rfl (E.fuel+1) h0 (by unfold h0;simp only;omega) k _ h0 hk fiH0 rfl hv (by rw [List.length_zipWith,h4,← em];omega) L0 W mv vl (own E L0) H hmv V (fun _ e=>e)
 obtain ⟨r,hr⟩:∃ r,Hid (call SM f input fuel.toNat (fuel.toNat+1) 0 (meAt f k) (List.zipWith argOf (f.methods[k]).params args) h0=r):=⟨_,Lib.hid rfl⟩
 rw [hr.out] at HIV HCO ⊢
 obtain ⟨a1,c1,rfl,_⟩:=id hc
 obtain ⟨a2,c2,rfl,_⟩:=id hm
 obtain ⟨n1,hn1⟩:∃ n,n=f.classes.length:=⟨_,rfl⟩
 obtain ⟨n2,hn2⟩:∃ n,n=f.methods.length:=⟨_,rfl⟩
 obtain ⟨entry,hent⟩:∃ entry:Int,entry=(k:Int):=⟨_,rfl⟩
 rw [← hn1,← hn2,← hent] at HBEG ⊢
 rw [← hn1,← hn2] at Hf'
 replace HBEG:=Lib.hid HBEG
 replace HIV:=Lib.hid HIV
 replace HCO:=Lib.hid HCO
 have HM:=Lib.hid hmay
 have HNO:=Lib.hid hno
 have HEN:=Lib.hid hent
 clear hmay hn1 hn2 hno hv hi ha hc hm hty MM MO h3 h4 q3 q4 em hent
 go_enter Tryz.func7,Tryz.ntmps7
 go_wp2_with fail
 refine (FormW.smayV f _ _ _ HM.out (Hf'.out.mono (by exact Rd.byB) (by simp <;> omega))).mono ?_
 rintro e w1 ⟨rfl,hb1⟩
 have a0:w1.cell? ⟨w.heap.size,0,none⟩=some (.slice a1 n1 c1):=kept hb1 Rd.byL (by go_simp)
 have a1':w1.cell? ⟨w.heap.size,1,none⟩=some (.slice a2 n2 c2):=kept hb1 Rd.byL (by go_simp)
 have a2':w1.cell? ⟨w.heap.size+1,0,none⟩=some (.int .i64 entry):=kept hb1 Rd.byL (by go_simp)
 have y0:w1.cell? ⟨w.heap.size+1+1,0,none⟩=some (.int .i64 0):=kept hb1 Rd.byL (by go_simp)
 have f0:w1.frozen? ⟨w.heap.size+1+1,0,none⟩=false:=keptf hb1 Rd.byL (by go_simp)
 have y1:w1.cell? ⟨w.heap.size+1+1,1,none⟩=some (.int .i64 0):=kept hb1 Rd.byL (by go_simp)
 have f1:w1.frozen? ⟨w.heap.size+1+1,1,none⟩=false:=keptf hb1 Rd.byL (by go_simp)
 have y2:w1.cell? ⟨w.heap.size+1+1,2,none⟩=some (.int .i64 0):=kept hb1 Rd.byL (by go_simp)
 have f2:w1.frozen? ⟨w.heap.size+1+1,2,none⟩=false:=keptf hb1 Rd.byL (by go_simp)
 have y3:w1.cell? ⟨w.heap.size+1+1,3,none⟩=some (.slice none 0 0):=kept hb1 Rd.byL (by go_simp)
 have f3:w1.frozen? ⟨w.heap.size+1+1,3,none⟩=false:=keptf hb1 Rd.byL (by go_simp)
 have y4:w1.cell? ⟨w.heap.size+1+1,4,none⟩=some (.int .i64 0):=kept hb1 Rd.byL (by go_simp)
 have f4:w1.frozen? ⟨w.heap.size+1+1,4,none⟩=false:=keptf hb1 Rd.byL (by go_simp)
 have y5:w1.cell? ⟨w.heap.size+1+1,5,none⟩=some (.int .i64 0):=kept hb1 Rd.byL (by go_simp)
 have f5:w1.frozen? ⟨w.heap.size+1+1,5,none⟩=false:=keptf hb1 Rd.byL (by go_simp)
 have hbw:Below w.heap.size w w1:=Below.trans (by exact Rd.byB) (hb1.mono (by simp <;> omega))
 have hsz:w.heap.size+3≤w1.heap.size:=by have:=hb1.size;simp at this;omega
 have ly:=cell_lt y0
 clear hb1
 go_wp2_with fail
 refine (HBEG.out _ hbw).mono ?_
 rintro e w2 HBG
 obtain ⟨E,vl,rfl,hE,H,V,hb2⟩:=begR HNO.out HBG
 obtain ⟨va2,vcap,hvl,_⟩:=V.len
 obtain ⟨nl,hnl⟩:∃ nl,nl=(List.zipWith argOf f.methods[k].params args).length:=⟨_,rfl⟩
 rw [← hnl] at hvl
 subst hvl
 clear hnl
 clear HBG
 replace y0:=kept hb2 ly y0
 replace f0:=keptf hb2 ly f0
 replace y1:=kept hb2 ly y1
 replace f1:=keptf hb2 ly f1
 replace y2:=kept hb2 ly y2
 replace f2:=keptf hb2 ly f2
 replace y3:=kept hb2 ly y3
 replace f3:=keptf hb2 ly f3
 replace y4:=kept hb2 ly y4
 replace f4:=keptf hb2 ly f4
 replace y5:=kept hb2 ly y5
 replace f5:=keptf hb2 ly f5
 replace a0:=kept hb2 (by omega) a0
 replace a1':=kept hb2 (by omega) a1'
 replace a2':=kept hb2 (by omega) a2'
 have hbw2:=hbw.trans (hb2.mono (by omega))
 have ly2:=cell_lt y0
 have ly3:w.heap.size+1+1 < w2.heap.size+1:=by omega
 have ly4:w.heap.size+1+1 < w2.heap.size+1+1:=by omega
 have hsz2:=hb2.size
 have HB2:=Lib.hid hb2
 replace H:=Lib.hid H
 replace V:=Lib.hid V
 replace hE:=Lib.hid hE
 clear hb2
 have n3:w2.heap.size < w2.heap.size+1:=by omega
 have hEB:E.B=w1.heap.size:=hE.out.2.2.2.1
 have nres:¬ own E L0 (w.heap.size+1+1):=fun hk=>by have:=(own_lo H.out hk).1;omega
 have nbox:¬ own E L0 w2.heap.size:=fun hk=>by have:=(own_lo H.out hk).2;omega
 have HW:∀ W,Below w2.heap.size w2 W→PH E W L0 h0 0:=fun W hW=>H.out.below hW
 replace HW:=Lib.hid HW
 have lw0:=cell_lt a0
 have lw2:=cell_lt a2'
 have lw0a:w.heap.size < w2.heap.size+1:=by omega
 have lw0b:w.heap.size < w2.heap.size+1+1:=by omega
 have lw2a:w.heap.size+1 < w2.heap.size+1:=by omega
 have lw2b:w.heap.size+1 < w2.heap.size+1+1:=by omega
 go_wp2_with fail
 refine (runsP (HW.out _ (by exact Rd.byB)) _ _ _ _ r (firstP (HW.out _ (by exact Rd.byB)) k (by rw [hE.out.1];exact hk) _ _ _ _ (.slice va2 nl vcap) r (by go_simp) (by rw [hE.out.2.2.2.2];go_simp) (by rw [← HEN.out];go_simp) (by go_simp) (fun W mv hW hmv=>?hC)) (fun o h' e=>by have:=HCO.out;rw [e] at this;exact this.2)).mono ?_
 case hC =>
  rw [hE.out.1] at hmv
  have hW2:Below w2.heap.size w2 W:=Below.trans (by exact Rd.byB) (hW.mono (by simp <;> omega))
  exact HIV.out E ⟨hE.out.1,hE.out.2.1,hE.out.2.2.1⟩ W mv _ (HW.out _ hW2) hmv (V.out.next (Kp.of_below (X:=fun _=>False) hW2 (Nat.le_refl _)) (fun _ _ e=>e.elim) (fun _ _ e=>e))
 rintro e w4 ⟨rfl,K4,vo,B4,R4⟩
 obtain ⟨oa,oc,rfl⟩:=row_any R4
 have b0:=K4.cell (c:=w2.heap.size) (o:=0) (v:=.pointer (some ⟨E.hb,0,none⟩)) (by go_simp) nbox
 have z0:=K4.cell (c:=w.heap.size+1+1) (o:=0) (v:=.int .i64 0) (by go_simp) nres
 have g0:=K4.frz (c:=w.heap.size+1+1) (o:=0) (b:=false) (by go_simp) (by simp;omega) nres
 have z1:=K4.cell (c:=w.heap.size+1+1) (o:=1) (v:=.int .i64 0) (by go_simp) nres
 have g1:=K4.frz (c:=w.heap.size+1+1) (o:=1) (b:=false) (by go_simp) (by simp;omega) nres
 have z2:=K4.cell (c:=w.heap.size+1+1) (o:=2) (v:=.int .i64 0) (by go_simp) nres
 have g2:=K4.frz (c:=w.heap.size+1+1) (o:=2) (b:=false) (by go_simp) (by simp;omega) nres
 have z3:=K4.cell (c:=w.heap.size+1+1) (o:=3) (v:=.slice none 0 0) (by go_simp) nres
 have g3:=K4.frz (c:=w.heap.size+1+1) (o:=3) (b:=false) (by go_simp) (by simp;omega) nres
 have z4:=K4.cell (c:=w.heap.size+1+1) (o:=4) (v:=.int .i64 0) (by go_simp) nres
 have g4:=K4.frz (c:=w.heap.size+1+1) (o:=4) (b:=false) (by go_simp) (by simp;omega) nres
 have z5:=K4.cell (c:=w.heap.size+1+1) (o:=5) (v:=.int .i64 0) (by go_simp) nres
 have g5:=K4.frz (c:=w.heap.size+1+1) (o:=5) (b:=false) (by go_simp) (by simp;omega) nres
 have e2:=(B4 2 (by simp)).1
 have e3:=(B4 3 (by simp)).1
 have e4:=(B4 4 (by simp)).1
 have e5:=(B4 5 (by simp)).1
 have e6:=(B4 6 (by simp)).1
 have e7:=(B4 7 (by simp)).1
 simp only [List.getElem_cons_zero,List.getElem_cons_succ] at e2 e3 e4 e5 e6 e7
 have hK4:=Lib.hid K4
 have hR4:=Lib.hid R4
 have hlb:=cell_lt b0
 have hlz:=cell_lt z0
 have hle:=cell_lt e2
 have hnr:E.hb≠w.heap.size+1+1:=fun e=>nres (.inl e.symm)
 have hnr2:=hnr.symm
 clear K4 R4 B4 y0 f0 y1 f1 y2 f2 y3 f3 y4 f4 y5 f5
 go_wp2_with fail
 refine bodyPost_ret (v:=.tuple #[.agg #[.int .i64 (shown r).fin,.int .i64 (shown r).value,.int .i64 (shown r).cls,.slice oa (shown r).out.length oc,.int .i64 (shown r).used,.int .i64 (shown r).steps],.int .i64 0]) (by simp [results,Tryz.results7,go_sem] <;> go_simp) rfl ?_
 have K:∀ (W:World) (j:Nat) (u:Value),Kp (fun k=>k=w.heap.size+1+1) w4 W→Kp (fun k=>k=w.heap.size+1+1) w4 (W.setCell ⟨w.heap.size+1+1,j,none⟩ u):=fun W j u K=>K.setCell (p:=⟨w.heap.size+1+1,j,none⟩) (.inl rfl) u
 have KK:=K _ 5 (.int .i64 (shown r).steps) (K _ 4 (.int .i64 (shown r).used) (K _ 3 (.slice oa (shown r).out.length oc) (K _ 2 (.int .i64 (shown r).cls) (K _ 1 (.int .i64 (shown r).value) (K _ 0 (.int .i64 (shown r).fin) (Kp.refl _ w4))))))
 have KA:Kp (fun k=>w.heap.size≤k) w w4:=((Kp.of_below (X:=fun k=>w.heap.size≤k) hbw2 (Nat.le_refl _)).trans ((Kp.refl (fun _=>False) w2).alloc _ |>.alloc _) (fun _ e=>e.elim)).trans hK4.out (fun y hy=>.inl (by have:=(own_lo H.out hy).1;omega))
 refine ⟨_,rfl,⟨_,rfl,row_low (row_keep hR4.out KK (fun g hg e=>?_)) (by omega)⟩,(KA.trans KK (fun y hy=>.inl (by omega))).below (Nat.le_refl _) (fun _ e=>e)⟩
 have:=(World.ownsRow.lt hR4.out g hg).1
 omega
def srunPlay (f:Fi) (entry:Int) (args input:List Int) (fuel:Int):Sh × Int:=if Form.smay f=true then Run.play SM f entry args input fuel else (Sh.nil,2)
theorem srun {vf va vi:Value}{input args:List Int}{entry fuel:Int}(Hf:VFi w w.heap.size vf f) (hi:Sl 1 EInt w w.heap.size vi input) (ha:Sl 1 EInt w w.heap.size va args) :
  Calls Tryz.prog 7 #[vf,.int .i64 entry,va,vi,.int .i64 fuel] w (RunA w (srunPlay f entry args input fuel).1 (srunPlay f entry args input fuel).2):=by
 unfold srunPlay
 cases hmay:Form.smay f
 ·rw [if_neg (by simp)]
  exact runN Hf hmay entry fuel
 rw [if_pos rfl]
 have S:=fiS_of hmay
 have hn:∀ m∈f.methods,∀ i∈m.code,Ok i.n:=by
  intro m hm i hi
  obtain ⟨_,_,_,_,hms⟩:=Hf
  obtain ⟨_,_,_,_,_,hel⟩:=hms
  obtain ⟨k,hk,rfl⟩:=List.getElem_of_mem hm
  obtain ⟨_,_,_,_,vp,vco,vh,_,_,_,_,_,_,_,_,_,_,hco,_⟩:=hel k hk
  obtain ⟨_,_,_,_,_,hec⟩:=hco
  obtain ⟨j,hj,rfl⟩:=List.getElem_of_mem hi
  obtain ⟨_,_,_,_,_,_,_,_,_,ho,_⟩:=hec j hj
  exact ho.2.2.2.2
 have hin:∀ x∈input,Ok x:=by
  intro x hx
  obtain ⟨_,_,_,_,_,hel⟩:=hi
  obtain ⟨k,hk,rfl⟩:=List.getElem_of_mem hx
  obtain ⟨_,_,_,_,_,h⟩:=hel k hk
  exact h
 have har:∀ x∈args,Ok x:=by
  intro x hx
  obtain ⟨_,_,_,_,_,hel⟩:=ha
  obtain ⟨k,hk,rfl⟩:=List.getElem_of_mem hx
  obtain ⟨_,_,_,_,_,h⟩:=hel k hk
  exact h
 have out:∀ c:Int,c≠0→begin_ f entry args input fuel=c→(∀ W,Below w.heap.size w W→Calls Tryz.prog 21 #[vf,.int .i64 entry,va,vi,.int .i64 fuel] W (BeginE W c))→Calls Tryz.prog 7 #[vf,.int .i64 entry,va,vi,.int .i64 fuel] w (RunA w (Run.play SM f entry args input fuel).1 (Run.play SM f entry args input fuel).2):=fun c h0 he h=>by
  have e:Run.play SM f entry args input fuel=(Sh.nil,c):=by unfold Run.play;rw [he,if_pos h0]
  rw [e]
  exact runE Hf hmay entry fuel c h0 h
 by_cases b0:entry < 0∨(f.methods.length:Int)≤entry∨fuel < 0∨60000 < fuel
 ·exact out 4 (by decide) (by unfold begin_;rw [if_pos b0]) (fun W hW=>begin1 (Hf.mono hW hW.size) entry fuel b0)
 by_cases h3:1000 < input.length
 ·exact out 1 (by decide) (by unfold begin_;rw [if_neg b0,if_pos h3]) (fun W hW=>begin3 (Hf.mono hW hW.size) entry fuel (by omega) (by omega) (by omega) (by omega) (hi.mono mInt hW hW.size) h3)
 obtain ⟨k,rfl⟩:∃ k:Nat,entry=(k:Int):=⟨entry.toNat,by omega⟩
 have hk:k < f.methods.length:=by omega
 have q3:¬ fuel < 0:=by omega
 have q4:¬ 60000 < fuel:=by omega
 have em:f.methods[k]=meAt f k:=by unfold meAt;rw [List.getD_eq_getElem?_getD,List.getElem?_eq_getElem hk];rfl
 have M:=S.mes _ (List.getElem_mem hk)
 have ek:((k:Int)).toNat=k:=by omega
 by_cases h4:args.length=(f.methods[k]).params.length
 ·cases hany:(f.methods[k]).params.any (fun t=>decide (t.kind=3))
  ·have hb0:begin_ f k args input fuel=0:=by unfold begin_;rw [if_neg b0,if_neg h3,ek,← em,if_neg (by rw [hany];simp [h4])]
   have e:Run.play SM f k args input fuel=(shown (call SM f input fuel.toNat (fuel.toNat+1) 0 (meAt f k) (List.zipWith argOf (f.methods[k]).params args) h0),0):=by unfold Run.play;rw [hb0,if_neg (by simp),ek,← em];rfl
   rw [e]
   refine runO S (smB_ok S hn hin) Hf hmay k hk q3 q4 hi (by omega) ha h4 hany (fun v hv=>?_)
   obtain ⟨i,hi2,rfl⟩:=List.getElem_of_mem hv
   rw [List.getElem_zipWith]
   simp only [List.length_zipWith] at hi2
   have ht:=M.params.2 _ (List.getElem_mem (show i < (f.methods[k]).params.length by omega))
   refine argOf_vt ht (fun e3=>?_) (har _ (List.getElem_mem _))
   have:=List.any_eq_false.1 hany _ (List.getElem_mem (show i < (f.methods[k]).params.length by omega))
   simp [e3] at this
  ·obtain ⟨vc,vm,rfl,hc,hm⟩:=id Hf
   have hty:∀ t∈(f.methods[k]).params,t.kind=1∨t.kind=2∨t.kind=3:=fun t ht=>by
    have:=M.params.2 t ht
    unfold Hier.ty at this
    split at this
    ·rename_i q;omega
    ·split at this
     ·rename_i q;omega
     ·cases this
   refine out 3 (by decide) (by unfold begin_;rw [if_neg b0,if_neg h3,ek,← em,if_pos (.inr hany)]) (fun W hW=>(begin5 (hc.mono mCls hW (Nat.le_refl _)) (hm.mono mMe hW (Nat.le_refl _)) hW.size k hk fuel q3 q4 (hi.mono mInt hW (Nat.le_refl _)) (by omega) (ha.mono mInt hW (Nat.le_refl _)) h4 M.params.1 hty).mono fun e w' h=>?_)
   unfold BegR at h
   rw [if_pos hany] at h
   exact h
 ·exact out 3 (by decide) (by unfold begin_;rw [if_neg b0,if_neg h3,ek,← em,if_pos (.inl h4)]) (fun W hW=>begin4 (Hf.mono hW hW.size) (Nat.le_refl _) k hk fuel q3 q4 (hi.mono mInt hW hW.size) (by omega) (ha.mono mInt hW hW.size) h4)
end
end Hpw
namespace Lo
open Num Rd D Run Mem HierW
def IS (w:World) (v:Value) (l:List Int):Prop:=∃ (a:Option Addr) (cap:Nat),v=.slice a l.length cap∧l.length≤cap∧cap≤9223372036854775807∧∀ i (h:i < l.length),∃ b o,a=some ⟨b,o,none⟩∧w.cell? ⟨b,o+i,none⟩=some (.int .i64 l[i])
theorem IS.below {w w':World}{v:Value}{l:List Int}(h:IS w v l) (hb:Below w.heap.size w w'):IS w' v l:=by
 obtain ⟨a,cap,h1,h2,h3,h4⟩:=h
 refine ⟨a,cap,h1,h2,h3,fun i hi=>?_⟩
 obtain ⟨b,o,e,c⟩:=h4 i hi
 exact ⟨b,o,e,kept hb (cell_lt c) c⟩
theorem IS.of_row {w:World}{B:Nat}{v:Value}{l:List Int}(h:w.ownsRow B 2 1 v l.length (l.map (.int .i64 ·))):IS w v l:=by
 by_cases h0:0 < l.length
 ·obtain ⟨g,cap,hv,c1,c2,_,_⟩:=row_form h h0
  rw [hv] at h ⊢
  refine ⟨_,cap,rfl,c1,c2,fun i hi=>⟨g,0,rfl,?_⟩⟩
  rw [Nat.zero_add]
  exact row_cell h (by simp [hi])
 ·have hl:l=[]:=List.eq_nil_of_length_eq_zero (by omega)
  subst hl
  rcases h.2 with ⟨hn,_⟩ | ⟨g,cap',cur,hv',_,_,_,hm,_⟩
  ·rw [hn];exact ⟨none,0,rfl,Nat.le_refl _,by omega,fun i hi=>absurd hi (by simp)⟩
  ·rw [hv'];exact ⟨_,cap',rfl,Nat.zero_le _,by unfold maxLen at hm;exact hm,fun i hi=>absurd hi (by simp)⟩
def ShR (w:World) (s:Sh) (v:Value):Prop:=∃ vo,v=.agg #[.int .i64 s.fin,.int .i64 s.value,.int .i64 s.cls,vo,.int .i64 s.used,.int .i64 s.steps]∧IS w vo s.out
theorem ShR.below {w w':World}{s:Sh}{v:Value}(h:ShR w s v) (hb:Below w.heap.size w w'):ShR w' s v:=by
 obtain ⟨vo,e,h⟩:=h
 exact ⟨vo,e,h.below hb⟩
end Lo
namespace Lo
open Num Rd D Run Mem HierW
set_option maxRecDepth 100000 in
theorem longs {w:World}{a:List Int}{va vb:Value}(ha:IS w va a) (hb:IS w vb a):Calls Tryz.prog 30 #[va,vb] w fun e w'=>e=.returned (.bool true)∧Below w.heap.size w w':=by
 obtain ⟨aa,acap,rfl,a1,a2,ael⟩:=ha
 obtain ⟨ba,bcap,rfl,b1,b2,bel⟩:=hb
 have hle1:((a.length:Int) != a.length)=false:=by simp
 have AEL:=Lib.hid ael
 have BEL:=Lib.hid bel
 clear ael bel
 go_enter Tryz.func30,Tryz.ntmps30
 go_wp2
 go_loopw [5] (fun i wr=>∃ n:Nat,i=.int .i64 n∧n≤a.length∧Below w.heap.size w wr) (fun i _=>a.length - (intOf i).toNat)
 case atStart=>exact ⟨0,rfl,Nat.zero_le _,by exact Rd.byB⟩
 case round =>
  obtain ⟨n,rfl,hn,hb⟩:=hrel
  by_cases hlt:n < a.length
  ·obtain ⟨xb,xo,rfl,cx⟩:=AEL.out n hlt
   obtain ⟨yb,yo,rfl,cy⟩:=BEL.out n hlt
   have cx':=kept hb (cell_lt cx) cx
   have cy':=kept hb (cell_lt cy) cy
   have l1:=cell_lt cx'
   have l2:=cell_lt cy'
   have hn1:(n:Int) < a.length:=by omega
   clear cx cy
   go_wp2
   go_quiet (fail)
   go_wp2
   go_roundw
   case rel=>exact ⟨n+1,by go_num,by omega,by exact Rd.byB⟩
   case measure=>simp [intOf];omega
  ·obtain rfl:n=a.length:=by omega
   go_wp2
   go_ret
   exact ⟨rfl,hb⟩
set_option maxRecDepth 100000 in
theorem shownP {w:World}{a:Sh}{va vb:Value}(ha:ShR w a va) (hb:ShR w a vb):Calls Tryz.prog 9 #[va,vb] w fun e w'=>e=.returned (.bool true)∧Below w.heap.size w w':=by
 obtain ⟨oa,rfl,ia⟩:=ha
 obtain ⟨ob,rfl,ib⟩:=hb
 obtain ⟨aa,acap,rfl,a1,a2,ael⟩:=id ia
 obtain ⟨ba,bcap,rfl,b1,b2,bel⟩:=id ib
 have IA:=Lib.hid ia
 have IB:=Lib.hid ib
 clear ia ib ael bel
 have hself:∀ x:Int,(x==x)=true:=fun x=>by simp
 go_enter Tryz.func9,Tryz.ntmps9
 go_wp2_with fail
 refine (longs (IA.out.below (by exact Rd.byB)) (IB.out.below (by exact Rd.byB))).mono ?_
 rintro e w2 ⟨rfl,hb2⟩
 have hbw:Below w.heap.size w w2:=Below.trans (by exact Rd.byB) (hb2.mono Rd.byL)
 clear hb2
 go_wp2_with fail
 go_ret
 exact ⟨rfl,hbw⟩
end Lo
namespace Lo
open Num Rd D Run Mem HierW
section
theorem shR_ofP {w w':World}{B:Nat}{s:Sh}{v:Value}(h:Hpw.ShV w B s v):ShR w s v:=by
 obtain ⟨vo,e,h⟩:=h
 exact ⟨vo,e,IS.of_row h⟩
theorem shR_ofR {w w':World}{B:Nat}{s:Sh}{v:Value}(h:Rhw.ShV w B s v):ShR w s v:=by
 obtain ⟨vo,e,h⟩:=h
 exact ⟨vo,e,IS.of_row h⟩
theorem shR_nil (w:World):ShR w Sh.nil (.agg #[.int .i64 0,.int .i64 0,.int .i64 0,.slice none 0 0,.int .i64 0,.int .i64 0]):=⟨_,rfl,none,0,rfl,Nat.le_refl _,by omega,fun i hi=>absurd hi (by simp [Sh.nil])⟩
set_option maxRecDepth 100000 in
theorem srunRuns (vf:Value) (f:Fi) (entry:Int) (va:Value) (args:List Int) (vi:Value) (input:List Int) (fuel:Int) (w:World) (hf:VFi w w.heap.size vf f) (he:Ok entry) (ha:Sl 1 EInt w w.heap.size va args) (hi:Sl 1 EInt w w.heap.size vi input) (hfu:Ok fuel) :
  Calls Tryz.prog 3 #[vf,.int .i64 entry,va,vi,.int .i64 fuel] w fun e w'=>e=.returned (.bool true)∧Below w.heap.size w w':=by
 have HF:=Lib.hid hf
 have HA:=Lib.hid ha
 have HI:=Lib.hid hi
 obtain ⟨vc,vms,rfl,hc,hms⟩:=hf
 obtain ⟨ca,ccap,rfl,_⟩:=hc
 obtain ⟨ma,mcap,rfl,_⟩:=hms
 obtain ⟨aa,acap,rfl,_⟩:=ha
 obtain ⟨ia,icap,rfl,_⟩:=hi
 obtain ⟨n1,hn1⟩:∃ n,n=f.classes.length:=⟨_,rfl⟩
 obtain ⟨n2,hn2⟩:∃ n,n=f.methods.length:=⟨_,rfl⟩
 rw [← hn1,← hn2] at HF ⊢
 clear hn1 hn2 he hfu
 by_cases q1:3000 < fuel∧fuel≤60000
 ·obtain ⟨q1,q2⟩:=q1
  go_enter Tryz.func3,Tryz.ntmps3
  go_wp2
  go_ret
  exact ⟨rfl,by exact Rd.byB⟩
 have hq:(decide (3000 < fuel) && decide (fuel≤60000))=false:=by simp;omega
 obtain ⟨p,hp⟩:∃ p,Hid (Hpw.srunPlay f entry args input fuel=p):=⟨_,Lib.hid rfl⟩
 obtain ⟨s,c⟩:=p
 obtain ⟨pm,hpm⟩:∃ p,Hid (Form.smay f=p):=⟨_,Lib.hid rfl⟩
 have HK:Hid (if pm=true then Run.play SM f entry args input fuel=(s,c) else s=Sh.nil∧c=2):=by
  have e:=hp.out
  unfold Hpw.srunPlay at e
  rw [hpm.out] at e
  show (if pm=true then _ else _)
  cases pm
  ·rw [if_neg (by simp)] at e ⊢
   simp only [Prod.mk.injEq] at e
   exact ⟨e.1.symm,e.2.symm⟩
  ·rw [if_pos rfl] at e ⊢
   exact e
 go_enter Tryz.func3,Tryz.ntmps3
 by_cases q3:3000 < fuel
 ·have q4:¬ fuel≤60000:=by omega
  go_wp2_with fail
  refine (Hpw.srun (HF.out.mono (by exact Rd.byB) Rd.byL) (HI.out.mono mInt (by exact Rd.byB) Rd.byL) (HA.out.mono mInt (by exact Rd.byB) Rd.byL)).mono ?_
  rw [hp.out]
  rintro e w1 ⟨v1,rfl,hsh,hb1⟩
  simp only at hsh
  have b0:w1.cell? ⟨w.heap.size,0,none⟩=some (.slice ca n1 ccap):=kept hb1 Rd.byL (by go_simp)
  have b1:w1.cell? ⟨w.heap.size,1,none⟩=some (.slice ma n2 mcap):=kept hb1 Rd.byL (by go_simp)
  have hbw:Below w.heap.size w w1:=Below.trans (by exact Rd.byB) (hb1.mono Rd.byL)
  have R1:=shR_ofP (w':=w1) hsh
  obtain ⟨vo,rfl,io⟩:=id R1
  obtain ⟨oa,ocap,rfl,_⟩:=id io
  have hsz:=hbw.size
  have lb:=cell_lt b0
  have lb2:w.heap.size < w1.heap.size+1:=by omega
  replace R1:=Lib.hid R1
  clear hb1 hsh io
  go_wp2_with fail
  refine (FormR.smay f _ _ (HF.out.mono (hbw.trans (by exact Rd.byB)) (by simp;omega))).mono ?_
  rw [hpm.out]
  rintro e w2 ⟨rfl,hb2⟩
  have hb12:Below w1.heap.size w1 w2:=Below.trans (by exact Rd.byB) (hb2.mono Rd.byL)
  have y0:w2.cell? ⟨w1.heap.size,0,none⟩=some (.int .i64 s.fin):=kept hb2 Rd.byL (by go_simp)
  have y1:w2.cell? ⟨w1.heap.size,1,none⟩=some (.int .i64 s.value):=kept hb2 Rd.byL (by go_simp)
  have y2:w2.cell? ⟨w1.heap.size,2,none⟩=some (.int .i64 s.cls):=kept hb2 Rd.byL (by go_simp)
  have y3:w2.cell? ⟨w1.heap.size,3,none⟩=some (.slice oa s.out.length ocap):=kept hb2 Rd.byL (by go_simp)
  have y4:w2.cell? ⟨w1.heap.size,4,none⟩=some (.int .i64 s.used):=kept hb2 Rd.byL (by go_simp)
  have y5:w2.cell? ⟨w1.heap.size,5,none⟩=some (.int .i64 s.steps):=kept hb2 Rd.byL (by go_simp)
  have ly:=cell_lt y0
  have c0:=kept hb12 lb b0
  have c1:=kept hb12 lb b1
  have hbw2:=hbw.trans (hb12.mono hsz)
  have hsz2:=hbw2.size
  have HB12:=Lib.hid hb12
  have hself:(c==c)=true:=by simp
  clear hb2 hb12 b0 b1
  cases pm
  ·obtain ⟨rfl,rfl⟩:s=Sh.nil∧c=2:=by have e:=HK.out;rw [if_neg (by simp)] at e;exact e
   go_wp2_with fail
   refine (shownP (R1.out.below (HB12.out.trans (by exact Rd.byB))) (shR_nil _)).mono ?_
   rintro e w3 ⟨rfl,hb3⟩
   have hbw3:=hbw2.trans (hb3.mono hsz2)
   go_wp2
   go_ret
   exact ⟨rfl,hbw3⟩
  ·have HP:Hid (Run.play SM f entry args input fuel=(s,c)):=by have e:=HK.out;rw [if_pos rfl] at e;exact e
   go_wp2_with fail
   refine (Rhw.play hpm.out (HF.out.mono (hbw2.trans (by exact Rd.byB)) (by first | exact hsz2 | (simp;omega))) (HI.out.mono mInt (hbw2.trans (by exact Rd.byB)) (by first | exact hsz2 | (simp;omega))) (HA.out.mono mInt (hbw2.trans (by exact Rd.byB)) (by first | exact hsz2 | (simp;omega)))).mono ?_
   rw [HP.out]
   rintro e w3 ⟨v3,rfl,hsh3,hb3⟩
   simp only at hsh3
   have R3:=shR_ofR (w':=w3) hsh3
   obtain ⟨vo3,rfl,io3⟩:=id R3
   obtain ⟨oa3,ocap3,rfl,_⟩:=id io3
   have HB23:=Lib.hid (show Below w2.heap.size w2 w3 from Below.trans (by exact Rd.byB) (hb3.mono (by first | exact Nat.le_refl _ | (simp;omega))))
   have z0:=kept HB23.out ly y0
   have z1:=kept HB23.out ly y1
   have z2:=kept HB23.out ly y2
   have z3:=kept HB23.out ly y3
   have z4:=kept HB23.out ly y4
   have z5:=kept HB23.out ly y5
   have lz:=cell_lt z0
   have lz2:w1.heap.size < w3.heap.size+1:=by omega
   have hbw3:=hbw2.trans (HB23.out.mono hsz2)
   have hsz3:=hbw3.size
   have HB13:=Lib.hid (HB12.out.trans (HB23.out.mono HB12.out.size))
   replace R3:=Lib.hid R3
   clear hb3 hsh3 io3 y0 y1 y2 y3 y4 y5
   go_wp2_with fail
   refine (shownP (R1.out.below (HB13.out.trans (by exact Rd.byB))) (R3.out.below (by exact Rd.byB))).mono ?_
   rintro e w4 ⟨rfl,hb4⟩
   have hbw4:Below w.heap.size w w4:=hbw3.trans (Below.trans (by exact Rd.byB) (hb4.mono (by simp;omega)))
   go_wp2
   go_ret
   exact ⟨rfl,hbw4⟩
 ·skip
  go_wp2_with fail
  refine (Hpw.srun (HF.out.mono (by exact Rd.byB) Rd.byL) (HI.out.mono mInt (by exact Rd.byB) Rd.byL) (HA.out.mono mInt (by exact Rd.byB) Rd.byL)).mono ?_
  rw [hp.out]
  rintro e w1 ⟨v1,rfl,hsh,hb1⟩
  simp only at hsh
  have b0:w1.cell? ⟨w.heap.size,0,none⟩=some (.slice ca n1 ccap):=kept hb1 Rd.byL (by go_simp)
  have b1:w1.cell? ⟨w.heap.size,1,none⟩=some (.slice ma n2 mcap):=kept hb1 Rd.byL (by go_simp)
  have hbw:Below w.heap.size w w1:=Below.trans (by exact Rd.byB) (hb1.mono Rd.byL)
  have R1:=shR_ofP (w':=w1) hsh
  obtain ⟨vo,rfl,io⟩:=id R1
  obtain ⟨oa,ocap,rfl,_⟩:=id io
  have hsz:=hbw.size
  have lb:=cell_lt b0
  have lb2:w.heap.size < w1.heap.size+1:=by omega
  replace R1:=Lib.hid R1
  clear hb1 hsh io
  go_wp2_with fail
  refine (FormR.smay f _ _ (HF.out.mono (hbw.trans (by exact Rd.byB)) (by simp;omega))).mono ?_
  rw [hpm.out]
  rintro e w2 ⟨rfl,hb2⟩
  have hb12:Below w1.heap.size w1 w2:=Below.trans (by exact Rd.byB) (hb2.mono Rd.byL)
  have y0:w2.cell? ⟨w1.heap.size,0,none⟩=some (.int .i64 s.fin):=kept hb2 Rd.byL (by go_simp)
  have y1:w2.cell? ⟨w1.heap.size,1,none⟩=some (.int .i64 s.value):=kept hb2 Rd.byL (by go_simp)
  have y2:w2.cell? ⟨w1.heap.size,2,none⟩=some (.int .i64 s.cls):=kept hb2 Rd.byL (by go_simp)
  have y3:w2.cell? ⟨w1.heap.size,3,none⟩=some (.slice oa s.out.length ocap):=kept hb2 Rd.byL (by go_simp)
  have y4:w2.cell? ⟨w1.heap.size,4,none⟩=some (.int .i64 s.used):=kept hb2 Rd.byL (by go_simp)
  have y5:w2.cell? ⟨w1.heap.size,5,none⟩=some (.int .i64 s.steps):=kept hb2 Rd.byL (by go_simp)
  have ly:=cell_lt y0
  have c0:=kept hb12 lb b0
  have c1:=kept hb12 lb b1
  have hbw2:=hbw.trans (hb12.mono hsz)
  have hsz2:=hbw2.size
  have HB12:=Lib.hid hb12
  have hself:(c==c)=true:=by simp
  clear hb2 hb12 b0 b1
  cases pm
  ·obtain ⟨rfl,rfl⟩:s=Sh.nil∧c=2:=by have e:=HK.out;rw [if_neg (by simp)] at e;exact e
   go_wp2_with fail
   refine (shownP (R1.out.below (HB12.out.trans (by exact Rd.byB))) (shR_nil _)).mono ?_
   rintro e w3 ⟨rfl,hb3⟩
   have hbw3:=hbw2.trans (hb3.mono hsz2)
   go_wp2
   go_ret
   exact ⟨rfl,hbw3⟩
  ·have HP:Hid (Run.play SM f entry args input fuel=(s,c)):=by have e:=HK.out;rw [if_pos rfl] at e;exact e
   go_wp2_with fail
   refine (Rhw.play hpm.out (HF.out.mono (hbw2.trans (by exact Rd.byB)) (by first | exact hsz2 | (simp;omega))) (HI.out.mono mInt (hbw2.trans (by exact Rd.byB)) (by first | exact hsz2 | (simp;omega))) (HA.out.mono mInt (hbw2.trans (by exact Rd.byB)) (by first | exact hsz2 | (simp;omega)))).mono ?_
   rw [HP.out]
   rintro e w3 ⟨v3,rfl,hsh3,hb3⟩
   simp only at hsh3
   have R3:=shR_ofR (w':=w3) hsh3
   obtain ⟨vo3,rfl,io3⟩:=id R3
   obtain ⟨oa3,ocap3,rfl,_⟩:=id io3
   have HB23:=Lib.hid (show Below w2.heap.size w2 w3 from Below.trans (by exact Rd.byB) (hb3.mono (by first | exact Nat.le_refl _ | (simp;omega))))
   have z0:=kept HB23.out ly y0
   have z1:=kept HB23.out ly y1
   have z2:=kept HB23.out ly y2
   have z3:=kept HB23.out ly y3
   have z4:=kept HB23.out ly y4
   have z5:=kept HB23.out ly y5
   have lz:=cell_lt z0
   have lz2:w1.heap.size < w3.heap.size+1:=by omega
   have hbw3:=hbw2.trans (HB23.out.mono hsz2)
   have hsz3:=hbw3.size
   have HB13:=Lib.hid (HB12.out.trans (HB23.out.mono HB12.out.size))
   replace R3:=Lib.hid R3
   clear hb3 hsh3 io3 y0 y1 y2 y3 y4 y5
   go_wp2_with fail
   refine (shownP (R1.out.below (HB13.out.trans (by exact Rd.byB))) (R3.out.below (by exact Rd.byB))).mono ?_
   rintro e w4 ⟨rfl,hb4⟩
   have hbw4:Below w.heap.size w w4:=hbw3.trans (Below.trans (by exact Rd.byB) (hb4.mono (by simp;omega)))
   go_wp2
   go_ret
   exact ⟨rfl,hbw4⟩
end
end Lo
end Go.Proofs.YtncmhenfgbcihabGreat
