/- Parts of the proof: Sr. -/
import Derived.Test.YtncmhenfgbcihabG17
set_option linter.unusedSimpArgs false
set_option linter.unusedVariables false
set_option maxHeartbeats 8000000
namespace Go.Proofs.Ytncmhenfgbcihab
open Go.RowKit
namespace Sck
open Num Rd D Mem Hpw Flow HierW FormW
section
variable {E:FE}{w w':World}{vw:Value}{R:Flow.Run}{nl ns len:Nat}{v:Value}{s was:State}
theorem sameV {w:World}{X X2:Nat→Prop}{va vb:Value}{a b:State}(p:Bool) (ha:VSt w X va a) (hb:VSt w X2 vb b) (hl:a.slots.length≤1000000) (hl2:a.stack.length≤1000000) (hp:decide (a=b)=p):Calls Try.prog 146 #[va,vb] w fun e w'=>e=.returned (.bool p)∧Below w.heap.size w w':=by
 subst hp;exact same ha hb hl hl2
theorem stok_len {n nl ns:Nat}{s:State}(h:StOk n nl ns s) (h1:nl≤1000) (h2:ns≤1000):s.slots.length≤1000000∧s.stack.length≤1000000:=by
 cases hb:s.broken
 ·obtain ⟨a1,a2,_⟩:=h.2 hb;omega
 ·rw [h.1 hb];simp [State.bad]
set_option maxRecDepth 100000 in
theorem lead2 (F:Fw E w vw R) (hm:Hier.may E.f.classes=true) (hv:VSt w (zone E vw) v s) (os:StOk E.f.classes.length nl ns s) (ow:StOk E.f.classes.length nl ns was) (hnl:nl≤1000) (hns:ns≤1000) (a:Nat) (ha:a < R.states.length) (hn:R.states.getD a none=some was) (hwl:R.work.length≤100000000):Calls Try.prog 93 #[.pointer (some ⟨E.fb,0,none⟩),.int .i64 a,v] w (LeadR E vw w (Flow.lead E.f.classes R a s)):=by
 obtain ⟨T,hT⟩:∃ T,Hid (Flow.together E.f.classes was s=T):=⟨_,Lib.hid rfl⟩
 have e:Hid (Flow.lead E.f.classes R a s=if T=was then R else ⟨R.states.set a (some T),R.work++[a],R.bad⟩):=by
  show _=_;unfold Flow.lead;rw [if_pos ha,hn];simp only;rw [hT.out]
 generalize hres:Flow.lead E.f.classes R a s=res at e ⊢
 clear hres;have oT:StOk E.f.classes.length nl ns T:=by rw [← hT.out];exact together_ok hm ow os
 have hTl:=Lib.hid (stok_len oT hnl hns);obtain ⟨io,hi',hy0,hy1,hy2⟩:=info_parts info_i;have HV:=Lib.hid hv;obtain ⟨x,y,rfl,t1,t2⟩:=hv;obtain ⟨c1,n1,rfl,_⟩:=t1.len;obtain ⟨c2,n2,rfl,_⟩:=t2.len;obtain ⟨sl,st,br⟩:=s;simp only at HV t1 t2;clear t1 t2;have HF:=Lib.hid F;have zl:=zlt F;have l0:=(F.fl 0 (by simp)).1
 have l1:=(F.fl 1 (by simp)).1
 have hfb:=zlt F E.fb (.inl rfl);have hsb:=zlt F E.sb (.inr (.inr (.inl rfl)));have hfb1:E.fb < w.heap.size+1:=by omega
 have hsb1:E.sb < w.heap.size+1:=by omega
 simp only [List.getElem_cons_zero,List.getElem_cons_succ] at l0 l1;obtain ⟨v0,k0,fz0,p0⟩:=F.st a ha;rw [hn] at p0;obtain ⟨pb,va,vb,rfl,hpz,q0,q1,q2,u1,u2⟩:=p0;have hW:VSt w (zone E vw) (.agg #[va,vb,.bool was.broken]) was:=⟨va,vb,rfl,u1,u2⟩;obtain ⟨c3,n3,rfl,_⟩:=u1.len;obtain ⟨c4,n4,rfl,_⟩:=u2.len;have HW:=Lib.hid hW;have hpb:=cell_lt q0;have hpb1:pb < w.heap.size+1:=by omega
 have hpb2:pb < w.heap.size+1+1:=by omega
 obtain ⟨ca,ccap,evc,_⟩:=F.cls;have HC:Hid (Cs w E.vc E.f.classes):=F.cls.mono mCls (Below.refl _ _) F.base;rw [evc] at HC l0;have ha2:(a:Int) < R.states.length:=by omega
 have HWL:=Lib.hid hwl;have hap:=F.some_.2;have hne:=F.ne;have hn1:¬ E.sb=E.fb:=fun e=>hne.2.1 e.symm;have hn2:¬ E.fb=E.sb:=hne.2.1;have nz:Hid (∀ k,w.heap.size≤k→¬ zone E vw k):=fun k h1 h2=>by have:=zl k h2;omega
 obtain ⟨wa,wcap,evw⟩:=row_any F.wk;have EVW:=Lib.hid evw;obtain ⟨p,hp⟩:∃ p,Hid (decide (T=was)=p):=⟨_,Lib.hid rfl⟩;have HNL:=Lib.hid hnl;have HNS:=Lib.hid hns;clear F hwl hn evw hW u1 u2 hnl hns;replace e:=Lib.hid e.out
 go_enter Try.func93,Try.ntmps93
 go_upto_region 6 with (fail)
 obtain ⟨W,hWd⟩:∃ W,W=w.alloc (.cells #[.slice c1 sl.length n1,.slice c2 st.length n2,.bool br] 157):=⟨_,rfl⟩;have hbW:Below w.heap.size w W:=by rw [hWd];exact Rd.byB
 have hsW:W.heap.size=w.heap.size+1:=by rw [hWd];simp
 have s0:W.cell? ⟨w.heap.size,0,none⟩=some (.slice c1 sl.length n1):=by rw [hWd];go_simp
 have s1:W.cell? ⟨w.heap.size,1,none⟩=some (.slice c2 st.length n2):=by rw [hWd];go_simp
 have s2:W.cell? ⟨w.heap.size,2,none⟩=some (.bool br):=by rw [hWd];go_simp
 replace l0:=kept hbW hfb l0;replace l1:=kept hbW hfb l1;replace k0:=kept hbW hsb k0;replace fz0:=keptf hbW hsb fz0;replace q0:=kept hbW hpb q0;replace q1:=kept hbW hpb q1;replace q2:=kept hbW hpb q2;rw [← hWd];clear hWd;have hbx0:W.cell? ⟨w.heap.size,0,none⟩=W.cell? ⟨w.heap.size,0,none⟩:=rfl;refine Drawn.hd (fun w'=>w'.cell? ⟨E.fb,0,none⟩=some (.slice ca E.f.classes.length ccap)∧(w'.cell? ⟨pb,0,none⟩=some (.slice c3 was.slots.length n3)∧w'.cell? ⟨pb,1,none⟩=some (.slice c4 was.stack.length n4)∧w'.cell? ⟨pb,2,none⟩=some (.bool was.broken))∧w'.cell? ⟨w.heap.size,0,none⟩=some (.slice c1 sl.length n1)∧w'.cell? ⟨w.heap.size,1,none⟩=some (.slice c2 st.length n2)∧w'.cell? ⟨w.heap.size,2,none⟩=some (.bool br)) (hS:=by (try dsimp only);exact ⟨l0,⟨q0,q1,q2⟩,s0,s1,s2⟩) (h:=fun hHeld=>?_)
 refine dT 0 33 ?_;refine dT 1 34 ?_;refine dT 2 35 ?_;refine dT 3 36 ?_;refine dT 4 37 ?_;refine dT 5 38 ?_;refine dT 6 39 ?_;refine dT 7 40 ?_;refine wpAnyH_ready (rs:=[8,9]) (by kernel_rfl) (by simp) ?_
 refine AllReadyH.cons rfl (fun K hK=>?_) (AllReadyH.cons rfl (fun K hK=>?_) AllReadyH.nil)
 ·go_simp
  go_at_call 145
  refine (together hm (HC.out.next (hbW.trans (by exact Rd.byB))) (HW.out.below (X':=fun _=>False) (hbW.trans (by exact Rd.byB)) (fun _ _ e=>e.elim)) (HV.out.below (X':=fun _=>False) (hbW.trans (by exact Rd.byB)) (fun _ _ e=>e.elim)) ow os HNL.out HNS.out).mono ?_
  rintro e w2 ⟨v2,rfl,V2,hb2⟩;rw [hT.out] at V2;obtain ⟨xa,xb,rfl,X1,X2⟩:=V2;obtain ⟨d1,m1,rfl,_⟩:=X1.len;obtain ⟨d2,m2,rfl,_⟩:=X2.len;have hb2W:Below W.heap.size W w2:=Below.trans (by exact Rd.byB) (hb2.mono Rd.byL)
  have e1:=kept hb2W (cell_lt l0) l0;have e2:=kept hb2W (cell_lt q0) q0;have e3:=kept hb2W (cell_lt q1) q1;have e4:=kept hb2W (cell_lt q2) q2;have e5:=kept hb2W (cell_lt s0) s0;have e6:=kept hb2W (cell_lt s1) s1;have e7:=kept hb2W (cell_lt s2) s2;have lx1:=cell_lt e1;have lx2:=cell_lt e2;have lx3:=cell_lt e5
  go_wp2_with fail
  refine Drawn.bk hK (hS:=by (try dsimp only);exact ⟨e1,⟨e2,e3,e4⟩,e5,e6,e7⟩) (h:=fun hHeld=>?_)
  clear hK K;refine Drawn.cl 9 (fun K hK=>?_);go_simp;refine Drawn.bk hK (hS:=by (try dsimp only);refine ⟨?_,⟨?_,?_,?_⟩,?_,?_,?_⟩ <;> go_simp) (h:=fun hHeld=>?_)
  clear hK K;refine Drawn.cl 10 (fun K hK=>?_);go_simp;refine Drawn.bk hK (hS:=by (try dsimp only);refine ⟨?_,⟨?_,?_,?_⟩,?_,?_,?_⟩ <;> go_simp) (h:=fun hHeld=>?_)
  clear hK K;refine dN ?_;obtain ⟨bx,hbx⟩:∃ bx,bx=w2.heap.size:=⟨_,rfl⟩;obtain ⟨W5,hW5⟩:∃ W5,W5=w2.alloc (.cells #[.slice d1 T.slots.length m1,.slice d2 T.stack.length m2,.bool T.broken] 157):=⟨_,rfl⟩;have hs2:=hb2W.size;have hal:Below w2.heap.size w2 W5:=by rw [hW5];exact Rd.byB
  have hb5:Below W.heap.size W W5:=hb2W.trans (hal.mono hs2);have x0:W5.cell? ⟨bx,0,none⟩=some (.slice d1 T.slots.length m1):=by rw [hW5,hbx];go_simp
  have x1:W5.cell? ⟨bx,1,none⟩=some (.slice d2 T.stack.length m2):=by rw [hW5,hbx];go_simp
  have x2:W5.cell? ⟨bx,2,none⟩=some (.bool T.broken):=by rw [hW5,hbx];go_simp
  have hbxl:W.heap.size≤bx:=by omega
  have VT:Hid (VSt W5 (fun k=>k < W.heap.size) (.agg #[.slice d1 T.slots.length m1,.slice d2 T.stack.length m2,.bool T.broken]) T):=⟨_,_,rfl,X1.below (X':=fun k=>k < W.heap.size) hal (fun b _ e=>by simp;omega),X2.below (X':=fun k=>k < W.heap.size) hal (fun b _ e=>by simp;omega)⟩
  rw [← hW5,← hbx];clear hW5 hbx hal;replace l1:=kept hb5 (cell_lt l1) l1;replace fz0:=keptf hb5 (cell_lt k0) fz0;replace k0:=kept hb5 (cell_lt k0) k0;replace q1:=kept hb5 (cell_lt q1) q1;replace q2:=kept hb5 (cell_lt q2) q2;replace q0:=kept hb5 (cell_lt q0) q0;have hbw5:Below w.heap.size w W5:=hbW.trans (hb5.mono hbW.size);clear e1 e2 e3 e4 e5 e6 e7 s0 s1 s2 l0
  go_wp2_with fail
  go_still_tail 4,(by kernel_rfl)
  go_wp2_with fail
  refine (sameV p (VT.out.below (X':=fun _=>False) (w':=W5.drew) (by exact Rd.byB) (fun _ _ e=>e.elim)) (HW.out.below (X':=fun _=>False) (hbw5.trans (by exact Rd.byB)) (fun _ _ e=>e.elim)) hTl.out.1 hTl.out.2 hp.out).mono ?_
  rintro e6 w6 ⟨rfl,hb6⟩;have hb6':Below W5.heap.size W5 w6:=Below.trans (by exact Rd.byB) (hb6.mono Rd.byL)
  have hbw6:Below w.heap.size w w6:=hbw5.trans (hb6'.mono hbw5.size)
  cases p
  ·have hne':¬ T=was:=of_decide_eq_false hp.out
   obtain rfl:=e.out.trans (if_neg hne')
   replace l1:=kept hb6' (cell_lt l1) l1;replace fz0:=keptf hb6' (cell_lt k0) fz0;replace k0:=kept hb6' (cell_lt k0) k0;replace x0:=kept hb6' (cell_lt x0) x0;replace x1:=kept hb6' (cell_lt x1) x1;replace x2:=kept hb6' (cell_lt x2) x2
   go_upto_region 9 with (fail)
   have F3:=HF.out.below hbw6;have V6:=VT.out.below (X':=fun k=>k < w.heap.size) hb6' (fun b _ e=>by omega)
   obtain ⟨_,_,ev6,Y1,Y2⟩:=V6;simp only [Value.agg.injEq] at ev6;simp at ev6;obtain ⟨rfl,rfl⟩:=ev6
   have hP:PSt w6 (zone E vw) (.pointer (some ⟨bx,0,none⟩)) (some T) :=
    ⟨bx,_,_,rfl,nz.out _ (by omega),x0,x1,x2,Y1.next (Kp.refl (fun _=>False) w6) (fun _ _ e=>e.elim) (fun b _ hz=>zl b hz),Y2.next (Kp.refl (fun _=>False) w6) (fun _ _ e=>e.elim) (fun b _ hz=>zl b hz)⟩
   have F4:=F3.state ha hP;have K4:Kp (zone E vw) w (w6.setCell ⟨E.sb,a,none⟩ (.pointer (some ⟨bx,0,none⟩))):=(Kp.of_below hbw6 (Nat.le_refl _)).setCell (p:=⟨E.sb,a,none⟩) (.inl (.inr (.inr (.inl rfl)))) _;clear F3 hP;have hB4:=F4.base;obtain ⟨W4,hW4⟩:∃ W4,W4=w6.setCell ⟨E.sb,a,none⟩ (.pointer (some ⟨bx,0,none⟩)):=⟨_,rfl⟩;rw [← hW4] at F4 K4 hB4 ⊢;clear hW4;have m2:=(F4.fl 2 (by simp)).1
   have n2':=(F4.fl 2 (by simp)).2
   simp only [List.getElem_cons_zero,List.getElem_cons_succ] at m2;rw [EVW.out] at m2;have hfb4:=cell_lt m2;have hfb5:E.fb < W4.heap.size+1:=by omega
   have hrow:Hid (W4.ownsRow E.B 3 1 (.slice wa R.work.length wcap) R.work.length (wcells R.work)):=by
    show World.ownsRow _ _ _ _ _ _ _
    rw [← EVW.out];exact F4.wk
   have hbig:R.work.length+1≤maxLen:=by have:=HWL.out;unfold maxLen;omega
   have hbig2:(R.work.length+1)*8≤140737488355328:=by have:=HWL.out;omega
   replace hbig:=Lib.hid hbig;replace hbig2:=Lib.hid hbig2;replace F4:=Lib.hid F4;replace K4:=Lib.hid K4
   go_wp2_with (at_builtin;refine wpList_append_lies _ rfl (.tmp 57) (.tmp 59) 61 rfl E.B 3 io (.int .i64 0) 1 8 Try.underlying61 hi' hy0 hy1 hy2 rfl (by decide) (.slice wa R.work.length wcap) R.work.length (wcells R.work) (by simp [Act.eval,Act.put]) (row_alloc hrow.out _) ⟨W4.heap.size,0,none⟩ 1 1 [.int .i64 a] (by simp [Act.eval,Act.put]) rfl (by exact news_i (by simp)) (by simp [Value.oneCell']) (by decide) hbig.out hbig2.out (by simp;omega) _ rfl ?_;intro g3 cap3 w5 hown3 hgrow3 hat3 hlt3;rw [← EVW.out] at hgrow3 hat3;have K5:Kp (fun k=>vw.ownBlock=some k) W4 w5:=(Kp.of_below (by exact Rd.byB) (Nat.le_refl _)).trans (Kp.of_grown (X:=fun k=>vw.ownBlock=some k) hgrow3 (fun k e=>e)) (fun y hy=>.inl hy);have nfw:¬ vw.ownBlock=some E.fb:=(fun e=>(F4.out.far _ e).1 rfl);have m3:w5.cell? ⟨E.fb,2,none⟩=some (.slice wa R.work.length wcap):=K5.cell m2 nfw;have n3':w5.frozen? ⟨E.fb,2,none⟩=false:=K5.frz n2' hfb4 nfw;have hat4:vw.ownBlock=some g3∨W4.heap.size≤g3:=(hat3.imp id (fun e=>by rw [e];simp));have HA:=Lib.hid (F4.out.work (l:=R.work++[a]) (vn:=.slice (some ⟨g3,0,none⟩) (R.work.length+1) cap3) K5 (by rw [List.length_append,wcells_append];exact hown3) (fun g hg=>by have e:g=g3:=(by simpa [Value.ownBlock,eq_comm] using hg);subst e;exact hat4));clear hown3 hgrow3 hat3 hat4 K5)
   first | go_end0 | ((try simp only [Exit.inBlock,Exit.then]);refine bodyPost_ret (results_none rfl _ _ _) rfl ?_)
   obtain ⟨A1,A2,A3⟩:=HA.out;exact ⟨rfl,_,A1,K4.out.trans A2 (fun y hy=>.inl hy),fun k hk=>(A3 k hk).imp id (fun e=>Nat.le_trans K4.out.size e)⟩
  ·have heq:T=was:=of_decide_eq_true hp.out
   obtain rfl:=e.out.trans (if_pos heq)
   go_wp2
   ((try simp only [Exit.inBlock,Exit.then]);refine bodyPost_ret (results_none rfl _ _ _) rfl ?_)
   exact ⟨rfl,vw,HF.out.below hbw6,Kp.of_below hbw6 (Nat.le_refl _),fun k hk=>.inl hk⟩
 ·go_simp;refine Drawn.bk hK (hS:=by (try dsimp only);refine ⟨?_,⟨?_,?_,?_⟩,?_,?_,?_⟩ <;> go_simp) (h:=fun hHeld=>?_)
  clear hK K;refine Drawn.cl 8 (fun K hK=>?_);go_simp
  go_at_call 145
  refine (together hm (HC.out.next (hbW.trans (by exact Rd.byB))) (HW.out.below (X':=fun _=>False) (hbW.trans (by exact Rd.byB)) (fun _ _ e=>e.elim)) (HV.out.below (X':=fun _=>False) (hbW.trans (by exact Rd.byB)) (fun _ _ e=>e.elim)) ow os HNL.out HNS.out).mono ?_
  rintro e w2 ⟨v2,rfl,V2,hb2⟩;rw [hT.out] at V2;obtain ⟨xa,xb,rfl,X1,X2⟩:=V2;obtain ⟨d1,m1,rfl,_⟩:=X1.len;obtain ⟨d2,m2,rfl,_⟩:=X2.len;have hb2W:Below W.heap.size W w2:=Below.trans (by exact Rd.byB) (hb2.mono Rd.byL)
  have e1:=kept hb2W (cell_lt l0) l0;have e2:=kept hb2W (cell_lt q0) q0;have e3:=kept hb2W (cell_lt q1) q1;have e4:=kept hb2W (cell_lt q2) q2;have e5:=kept hb2W (cell_lt s0) s0;have e6:=kept hb2W (cell_lt s1) s1;have e7:=kept hb2W (cell_lt s2) s2;have hs2':=hb2.size;simp at hs2';have y0:w2.cell? ⟨w.heap.size+1,0,none⟩=some (.slice none 0 0):=kept hb2 Rd.byL (by rw [← hsW];go_simp)
  have y1:w2.cell? ⟨w.heap.size+1,1,none⟩=some (.slice none 0 0):=kept hb2 Rd.byL (by rw [← hsW];go_simp)
  have y2:w2.cell? ⟨w.heap.size+1,2,none⟩=some (.bool false):=kept hb2 Rd.byL (by rw [← hsW];go_simp)
  have y3:w2.frozen? ⟨w.heap.size+1,0,none⟩=false:=keptf hb2 Rd.byL (by rw [← hsW];go_simp)
  have y4:w2.frozen? ⟨w.heap.size+1,1,none⟩=false:=keptf hb2 Rd.byL (by rw [← hsW];go_simp)
  have y5:w2.frozen? ⟨w.heap.size+1,2,none⟩=false:=keptf hb2 Rd.byL (by rw [← hsW];go_simp)
  have ne1:¬ w.heap.size+1=E.fb:=by omega
  have ne2:¬ w.heap.size+1=pb:=by omega
  have ne3:¬ E.fb=w.heap.size+1:=by omega
  have ne4:¬ pb=w.heap.size+1:=by omega
  go_wp2_with fail
  refine Drawn.bk hK (hS:=by (try dsimp only);exact ⟨e1,⟨e2,e3,e4⟩,e5,e6,e7⟩) (h:=fun hHeld=>?_)
  clear hK K;refine Drawn.cl 10 (fun K hK=>?_);go_simp;refine Drawn.bk hK (hS:=by (try dsimp only);refine ⟨?_,⟨?_,?_,?_⟩,?_,?_,?_⟩ <;> go_simp) (h:=fun hHeld=>?_)
  clear hK K;refine dN ?_;obtain ⟨bx,hbx⟩:∃ bx,bx=w.heap.size+1:=⟨_,rfl⟩;obtain ⟨W5,hW5⟩:∃ W5,W5=((w2.setCell ⟨w.heap.size+1,0,none⟩ (.slice d1 T.slots.length m1)).setCell ⟨w.heap.size+1,1,none⟩ (.slice d2 T.stack.length m2)).setCell ⟨w.heap.size+1,2,none⟩ (.bool T.broken):=⟨_,rfl⟩;have hs2:=hb2W.size;have KS:∀ (V:World) (j:Nat) (u:Value),Kp (fun k=>k=w.heap.size+1) w2 V→Kp (fun k=>k=w.heap.size+1) w2 (V.setCell ⟨w.heap.size+1,j,none⟩ u):=fun V j u K=>K.setCell (p:=⟨w.heap.size+1,j,none⟩) (.inl rfl) u;have KSS:Kp (fun k=>k=w.heap.size+1) w2 W5:=by rw [hW5];exact KS _ 2 _ (KS _ 1 _ (KS _ 0 _ (Kp.refl _ w2)))
  have hb5:Below W.heap.size W W5:=hb2W.trans (KSS.below hs2 (fun k e=>by omega))
  have x0:W5.cell? ⟨bx,0,none⟩=some (.slice d1 T.slots.length m1):=by rw [hW5,hbx];go_simp
  have x1:W5.cell? ⟨bx,1,none⟩=some (.slice d2 T.stack.length m2):=by rw [hW5,hbx];go_simp
  have x2:W5.cell? ⟨bx,2,none⟩=some (.bool T.broken):=by rw [hW5,hbx];go_simp
  have hbxl:W.heap.size≤bx:=by omega
  have VT:Hid (VSt W5 (fun k=>k < W.heap.size) (.agg #[.slice d1 T.slots.length m1,.slice d2 T.stack.length m2,.bool T.broken]) T):=⟨_,_,rfl,X1.next (X':=fun k=>k < W.heap.size) KSS (fun b _ e=>by simp;omega) (fun b _ e=>by simp;omega),X2.next (X':=fun k=>k < W.heap.size) KSS (fun b _ e=>by simp;omega) (fun b _ e=>by simp;omega)⟩
  rw [← hW5,← hbx];clear hW5 hbx y0 y1 y2 y3 y4 y5 ne1 ne2 ne3 ne4;replace l1:=kept hb5 (cell_lt l1) l1;replace fz0:=keptf hb5 (cell_lt k0) fz0;replace k0:=kept hb5 (cell_lt k0) k0;replace q1:=kept hb5 (cell_lt q1) q1;replace q2:=kept hb5 (cell_lt q2) q2;replace q0:=kept hb5 (cell_lt q0) q0;have hbw5:Below w.heap.size w W5:=hbW.trans (hb5.mono hbW.size);clear e1 e2 e3 e4 e5 e6 e7 s0 s1 s2 l0
  go_wp2_with fail
  go_still_tail 4,(by kernel_rfl)
  go_wp2_with fail
  refine (sameV p (VT.out.below (X':=fun _=>False) (w':=W5.drew) (by exact Rd.byB) (fun _ _ e=>e.elim)) (HW.out.below (X':=fun _=>False) (hbw5.trans (by exact Rd.byB)) (fun _ _ e=>e.elim)) hTl.out.1 hTl.out.2 hp.out).mono ?_
  rintro e6 w6 ⟨rfl,hb6⟩;have hb6':Below W5.heap.size W5 w6:=Below.trans (by exact Rd.byB) (hb6.mono Rd.byL)
  have hbw6:Below w.heap.size w w6:=hbw5.trans (hb6'.mono hbw5.size)
  cases p
  ·have hne':¬ T=was:=of_decide_eq_false hp.out
   obtain rfl:=e.out.trans (if_neg hne')
   replace l1:=kept hb6' (cell_lt l1) l1;replace fz0:=keptf hb6' (cell_lt k0) fz0;replace k0:=kept hb6' (cell_lt k0) k0;replace x0:=kept hb6' (cell_lt x0) x0;replace x1:=kept hb6' (cell_lt x1) x1;replace x2:=kept hb6' (cell_lt x2) x2
   go_upto_region 9 with (fail)
   have F3:=HF.out.below hbw6;have V6:=VT.out.below (X':=fun k=>k < w.heap.size) hb6' (fun b _ e=>by omega)
   obtain ⟨_,_,ev6,Y1,Y2⟩:=V6;simp only [Value.agg.injEq] at ev6;simp at ev6;obtain ⟨rfl,rfl⟩:=ev6
   have hP:PSt w6 (zone E vw) (.pointer (some ⟨bx,0,none⟩)) (some T) :=
    ⟨bx,_,_,rfl,nz.out _ (by omega),x0,x1,x2,Y1.next (Kp.refl (fun _=>False) w6) (fun _ _ e=>e.elim) (fun b _ hz=>zl b hz),Y2.next (Kp.refl (fun _=>False) w6) (fun _ _ e=>e.elim) (fun b _ hz=>zl b hz)⟩
   have F4:=F3.state ha hP;have K4:Kp (zone E vw) w (w6.setCell ⟨E.sb,a,none⟩ (.pointer (some ⟨bx,0,none⟩))):=(Kp.of_below hbw6 (Nat.le_refl _)).setCell (p:=⟨E.sb,a,none⟩) (.inl (.inr (.inr (.inl rfl)))) _;clear F3 hP;have hB4:=F4.base;obtain ⟨W4,hW4⟩:∃ W4,W4=w6.setCell ⟨E.sb,a,none⟩ (.pointer (some ⟨bx,0,none⟩)):=⟨_,rfl⟩;rw [← hW4] at F4 K4 hB4 ⊢;clear hW4;have m2:=(F4.fl 2 (by simp)).1
   have n2':=(F4.fl 2 (by simp)).2
   simp only [List.getElem_cons_zero,List.getElem_cons_succ] at m2;rw [EVW.out] at m2;have hfb4:=cell_lt m2;have hfb5:E.fb < W4.heap.size+1:=by omega
   have hrow:Hid (W4.ownsRow E.B 3 1 (.slice wa R.work.length wcap) R.work.length (wcells R.work)):=by
    show World.ownsRow _ _ _ _ _ _ _
    rw [← EVW.out];exact F4.wk
   have hbig:R.work.length+1≤maxLen:=by have:=HWL.out;unfold maxLen;omega
   have hbig2:(R.work.length+1)*8≤140737488355328:=by have:=HWL.out;omega
   replace hbig:=Lib.hid hbig;replace hbig2:=Lib.hid hbig2;replace F4:=Lib.hid F4;replace K4:=Lib.hid K4
   go_wp2_with (at_builtin;refine wpList_append_lies _ rfl (.tmp 57) (.tmp 59) 61 rfl E.B 3 io (.int .i64 0) 1 8 Try.underlying61 hi' hy0 hy1 hy2 rfl (by decide) (.slice wa R.work.length wcap) R.work.length (wcells R.work) (by simp [Act.eval,Act.put]) (row_alloc hrow.out _) ⟨W4.heap.size,0,none⟩ 1 1 [.int .i64 a] (by simp [Act.eval,Act.put]) rfl (by exact news_i (by simp)) (by simp [Value.oneCell']) (by decide) hbig.out hbig2.out (by simp;omega) _ rfl ?_;intro g3 cap3 w5 hown3 hgrow3 hat3 hlt3;rw [← EVW.out] at hgrow3 hat3;have K5:Kp (fun k=>vw.ownBlock=some k) W4 w5:=(Kp.of_below (by exact Rd.byB) (Nat.le_refl _)).trans (Kp.of_grown (X:=fun k=>vw.ownBlock=some k) hgrow3 (fun k e=>e)) (fun y hy=>.inl hy);have nfw:¬ vw.ownBlock=some E.fb:=(fun e=>(F4.out.far _ e).1 rfl);have m3:w5.cell? ⟨E.fb,2,none⟩=some (.slice wa R.work.length wcap):=K5.cell m2 nfw;have n3':w5.frozen? ⟨E.fb,2,none⟩=false:=K5.frz n2' hfb4 nfw;have hat4:vw.ownBlock=some g3∨W4.heap.size≤g3:=(hat3.imp id (fun e=>by rw [e];simp));have HA:=Lib.hid (F4.out.work (l:=R.work++[a]) (vn:=.slice (some ⟨g3,0,none⟩) (R.work.length+1) cap3) K5 (by rw [List.length_append,wcells_append];exact hown3) (fun g hg=>by have e:g=g3:=(by simpa [Value.ownBlock,eq_comm] using hg);subst e;exact hat4));clear hown3 hgrow3 hat3 hat4 K5)
   first | go_end0 | ((try simp only [Exit.inBlock,Exit.then]);refine bodyPost_ret (results_none rfl _ _ _) rfl ?_)
   obtain ⟨A1,A2,A3⟩:=HA.out;exact ⟨rfl,_,A1,K4.out.trans A2 (fun y hy=>.inl hy),fun k hk=>(A3 k hk).imp id (fun e=>Nat.le_trans K4.out.size e)⟩
  ·have heq:T=was:=of_decide_eq_true hp.out
   obtain rfl:=e.out.trans (if_pos heq)
   go_wp2
   ((try simp only [Exit.inBlock,Exit.then]);refine bodyPost_ret (results_none rfl _ _ _) rfl ?_)
   exact ⟨rfl,vw,HF.out.below hbw6,Kp.of_below hbw6 (Nat.le_refl _),fun k hk=>.inl hk⟩
theorem lead (F:Fw E w vw R) (hm:Hier.may E.f.classes=true) (hR:RunOk E.f.classes.length nl ns len R) (hv:VSt w (zone E vw) v s) (os:StOk E.f.classes.length nl ns s) (hnl:nl≤1000) (hns:ns≤1000) (a:Nat) (hwl:R.work.length≤100000000):Calls Try.prog 93 #[.pointer (some ⟨E.fb,0,none⟩),.int .i64 a,v] w (LeadR E vw w (Flow.lead E.f.classes R a s)):=by
 by_cases ha:a < R.states.length
 ·cases hn:R.states.getD a none with
  | none =>
   have h12:s.slots.length≤1000∧s.stack.length≤1000:=by
    cases hb:s.broken
    ·obtain ⟨a1,a2,_⟩:=os.2 hb;omega
    ·rw [os.1 hb];simp [State.bad]
   exact lead1 F hv h12.1 h12.2 a ha hn hwl
  | some was=>exact lead2 F hm hv os (hR.2.1 a was hn) hnl hns a ha hn hwl
 ·exact lead0 F hv a ha
end
end Sck
end Go.Proofs.Ytncmhenfgbcihab
