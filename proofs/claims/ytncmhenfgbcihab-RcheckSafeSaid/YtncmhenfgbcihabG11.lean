/- Parts of the proof: Zc4, Zd, Ze, Stk, RunT, Ouk, OuR. -/
import Derived.Test.YtncmhenfgbcihabG10
import Derived.Test.YtncmhenfgbcihabG07
set_option linter.unusedSimpArgs false
set_option linter.unusedVariables false
set_option maxHeartbeats 8000000
namespace Go.Proofs.Ytncmhenfgbcihab
open Go.RowKit
namespace Rhq
open Num Rd D Run Mem HierW Hpw Rhw
def RRq (E:Ev) (L:RL) (d:Nat) (w:World) (r:Res Vl) (e:Ending) (w':World):Prop:=RRv E L d w r e w'∧(∀ o h',r=.thrown o h'→e=.returned (.agg #[.int .i64 0,.int .i64 0]))
def RunQ (E:Ev) (d g:Nat) (h:Hp):Prop:=∀ (k:Nat) (args:List Vl) (h1:Hp),k < E.f.methods.length→HpOk E.f.classes E.input E.fuel h1→h1.steps=h.steps→(∀ v∈args,VtOk h1.objs.length v)→args.length=(meAt E.f k).params.length →
 ∀ (L:RL) (W:World) (mv va:Value) (X:Nat→Prop),RH E W L h1 d Sv.run→VMe W E.B mv (meAt E.f k)→VS W X va args→(∀ j,own E L j→X j)→Calls Try.prog 60 #[.pointer (some ⟨E.hb,0,none⟩),mv,va] W (RRq E L d W (call RM E.f E.input E.fuel g d (meAt E.f k) args h1))
def calQ (E:Ev) (g d:Nat) (m m2:Me) (fr:Rf) (args:List Int) (h:Hp):Out Rf:=match rargs fr args m2.params with
 | none=>.stop 6 h
 | some vals=>outC RM m m2 ⟨fr.regs,fr.at_,Vl.nil,Vl.nil⟩ (call RM E.f E.input E.fuel g d m2 vals h)
theorem rargs_yes {fr:Rf}:∀ (ts:List Ty) (xs:List Int),xs.length=ts.length→(∀ j (h1:j < ts.length) (h2:j < xs.length),(rd fr xs[j]).kind=ts[j].kind)→rargs fr xs ts=some (xs.map (rd fr)):=by
 intro ts
 induction ts with
 | nil=>intro xs hl _;cases xs <;> simp_all [rargs]
 | cons t ts ih =>
  intro xs hl hk
  cases xs with
  | nil=>simp at hl
  | cons x xs =>
   simp only [rargs];have h0:(rd fr x).kind=t.kind:=hk 0 (by simp) (by simp)
   rw [if_pos h0,ih xs (by simpa using hl) (fun j h1 h2=>hk (j+1) (by simp;omega) (by simp;omega))]
   rfl
theorem rargs_no {fr:Rf}:∀ (ts:List Ty) (xs:List Int) (j:Nat) (h1:j < ts.length) (h2:j < xs.length),(rd fr xs[j]).kind≠ts[j].kind→rargs fr xs ts=none:=by
 intro ts
 induction ts with
 | nil=>intro xs j h1;simp at h1
 | cons t ts ih =>
  intro xs j h1 h2 hk
  cases xs with
  | nil=>simp at h2
  | cons x xs =>
   simp only [rargs]
   cases j with
   | zero=>rw [if_neg (by simpa using hk)]
   | succ j =>
    split
    ·rw [ih xs j (by simpa using h1) (by simpa using h2) (by simpa using hk)];rfl
    ·rfl
theorem growQ {B n size:Nat}{T:TypeId}{v:Value}{xs:List Value}{wr W w2:World}(hW:Below wr.heap.size wr W) (hown:wr.ownsRow B T size v n xs) (hg:W.grownBy w2 v.ownBlock):Kp (fun k=>B≤k) wr w2 :=
 (kpB hW).trans (Kp.of_grown (X:=fun k=>B≤k) hg (fun k e=>(World.ownsRow.lt hown k e).1)) (fun _ h=>.inl h)
theorem vsRow {w:World}{base:Nat}{T:TypeId}{X:Nat→Prop}{v:Value}{l:List Vl}(H:w.ownsRow base T 2 v l.length (vcells l)) (hX:∀ k,X k→k < base):VS w X v l:=by
 by_cases h0:0 < l.length
 ·obtain ⟨g,cap,hv,c1,c2,c3,c4⟩:=row_form H h0;rw [hv] at H ⊢;refine ⟨_,cap,rfl,c1,c2,fun i hi=>⟨g,0,rfl,fun hx=>by have:=hX g hx;omega,?_,?_⟩⟩
  ·have:=row_cell H (vcells_get l i hi).1
   rw [Nat.zero_add,this,List.getD_eq_getElem?_getD,List.getElem?_eq_getElem hi];rfl
  ·have:=row_cell H (vcells_get l i hi).2
   rw [Nat.zero_add,this,List.getD_eq_getElem?_getD,List.getElem?_eq_getElem hi];rfl
 ·have hl:l=[]:=List.eq_nil_of_length_eq_zero (by omega)
  subst hl;obtain ⟨a,cap,hv⟩:=row_any H
  rcases H.2 with ⟨hn,_⟩ | ⟨g,cap',cur,hv',_,_,_,hm,_⟩
  ·rw [hn];exact VS.nil _ _
  ·rw [hv'];exact VS.zero (by unfold maxLen at hm;exact hm)
structure LB (E:Ev) (L:RL) (P:Pl) (m:Me) (fr:Rf) (h:Hp) (d:Nat) (w:World) (op a b c n:Int) (va:Value) (mc:List Value) (vals:List Vl) (s:Sv) (v:Value) (W:World):Prop where
 D:DB E L P m fr h d w op a b c n va s W
 R:W.ownsRow (w.heap.size+2) 104 2 v vals.length (vcells vals)
 M:Blk W (w.heap.size+1) mc
 sz:w.heap.size+2≤W.heap.size
section
variable {fr:Rf}{mc:List Value}{vals:List Vl}{v:Value}{w5:World}{E:Ev}{w w' w1 w2 w3 W W2:World}{L L':RL}{h h':Hp}{d:Nat}{s s':Sv}{P:Pl}{m:Me}{rg:List Vl}{ap:Nat}{op a b c n:Int}{va:Value}
theorem DB.far2 (G:DB E L P m fr h d w op a b c n va s W) (K:Kp (fun k=>w.heap.size+1≤k) W W2):DB E L P m fr h d w op a b c n va s W2:=by
 have q0:¬ (w.heap.size+1≤w.heap.size):=by omega
 have q1:¬ (w.heap.size+1≤P.cb):=by have:=G.far;omega
 have q2:¬ (w.heap.size+1≤P.lb):=by have:=G.far;omega
 have F:=G.F;exact ⟨G.H.keep K (fun k hk=>⟨by have:=G.base;omega,G.no (by omega)⟩),⟨F.blk.next K q1,F.loc.next K q2,Nat.lt_of_lt_of_le F.lbw K.size,F.lo,F.far,F.ne⟩,G.K.trans K (fun y hy=>.inr (by omega)),K.cell G.i0 q0,K.cell G.i1 q0,K.cell G.i2 q0,K.cell G.i3 q0,K.cell G.i4 q0,K.cell G.i5 q0,G.base,G.old,G.far,G.hb⟩
theorem LB.next (G:LB E L P m fr h d w op a b c n va mc vals s v W) (K:Kp (own E L) W W2) (H:RH E W2 L h d s'):LB E L P m fr h d w op a b c n va mc vals s' v W2 :=
 ⟨G.D.next K H,row_keep G.R K (fun g hg=>G.D.no (by have:=World.ownsRow.lt G.R g hg;omega)),G.M.next K (G.D.no (by omega)),Nat.le_trans G.sz K.size⟩
theorem LB.below (G:LB E L P m fr h d w op a b c n va mc vals s v W) (hb:Below W.heap.size W W2):LB E L P m fr h d w op a b c n va mc vals s v W2:=G.next (kpB hb) (G.D.H.below hb)
theorem LB.box (G:LB E L P m fr h d w op a b c n va mc vals s v W){k:Nat}(hk:w.heap.size+2≤k) (hr:∀ g,v.ownBlock=some g→g≠k) (j:Nat) (x:Value):LB E L P m fr h d w op a b c n va mc vals s v (W.setCell ⟨k,j,none⟩ x):=by
 have K:Kp (fun y=>y=k) W (W.setCell ⟨k,j,none⟩ x):=(Kp.refl (fun y=>y=k) W).setCell (p:=⟨k,j,none⟩) (.inl rfl) x;exact ⟨G.D.box (by omega) j x,row_keep G.R K (fun g hg e=>hr g hg e),G.M.next K (by omega),Nat.le_trans G.sz K.size⟩
theorem DB.call (G:DB E L P m ⟨rg,ap,Vl.nil,Vl.nil⟩ h d w op a b c n va Sv.run W) (K0:Kp (own E L) W w2){h2:Hp}{L5:RL}(N5:∀ k,own E L5 k→own E L k∨W.heap.size≤k) (H5:RH E w2 L5 h2 d s') (k j:Int) :
  Kp (KX E L P) w ((w2.setCell ⟨P.cb,9,none⟩ (.int .i64 k)).setCell ⟨P.cb,10,none⟩ (.int .i64 j))∧(∀ k,own E L5 k→own E L k∨w.heap.size≤k)∧RH E ((w2.setCell ⟨P.cb,9,none⟩ (.int .i64 k)).setCell ⟨P.cb,10,none⟩ (.int .i64 j)) L5 h2 d s'∧Fq E ((w2.setCell ⟨P.cb,9,none⟩ (.int .i64 k)).setCell ⟨P.cb,10,none⟩ (.int .i64 j)) L5 P m ⟨rg,ap,⟨k,j⟩,Vl.nil⟩:=by
 have hs:=G.sz;have F5:=G.F.heap K0 N5;have K6:Kp (fun y=>y=P.cb∨y=P.lb) w2 ((w2.setCell ⟨P.cb,9,none⟩ (.int .i64 k)).setCell ⟨P.cb,10,none⟩ (.int .i64 j)):=((Kp.refl (fun y=>y=P.cb∨y=P.lb) w2).setCell (p:=⟨P.cb,9,none⟩) (.inl (.inl rfl)) _).setCell (p:=⟨P.cb,10,none⟩) (.inl (.inl rfl)) _;exact ⟨(((G.K.trans K0 (fun _ e=>.inl e)).mono (Y:=KX E L P) (fun _ e=>.inl e))).trans K6 (fun y hy=>.inl (.inr hy)),fun k hk=>(N5 k hk).imp id (fun q=>by omega),frameQ H5 F5 K6,F5.setGiven ⟨k,j⟩⟩
set_option maxRecDepth 100000 in
theorem dq18 (H:RH E w L h d Sv.run) (F:Fq E w L P m ⟨rg,ap,Vl.nil,Vl.nil⟩) (h1000:rg.length≤1000) (hat:ap≤100000) (b:Int) (c:Int) (n:Int) (k:Nat) (hk:k < E.f.methods.length) (m2:Me) (hm2:meAt E.f k=m2) (h4:m2.params.length≤4) (hty:∀ t∈m2.params,1≤t.kind∧t.kind≤3) (args:List Int) (aa:Option Addr) (acap:Nat) (hla:args.length=m2.params.length) (hreg:∀ j (hj:j < args.length),0≤args[j]∧args[j].toNat < rg.length) (hva:Sl 1 EInt w E.B (.slice aa args.length acap) args) (g:Nat) (HQ:RunQ E d g h) (HO:HpOk E.f.classes E.input E.fuel h) (hf:RfOk m h.objs.length ⟨rg,ap,Vl.nil,Vl.nil⟩) :
  Calls Try.prog 118 #[.pointer (some ⟨E.hb,0,none⟩),.pointer (some ⟨P.cb,0,none⟩),.agg #[.int .i64 18,.int .i64 k,.int .i64 b,.int .i64 c,.int .i64 n,.slice aa args.length acap]] w (DoQ E L P m d ⟨rg,ap,Vl.nil,Vl.nil⟩ w (calQ E g d m m2 ⟨rg,ap,Vl.nil,Vl.nil⟩ args h)):=by
 obtain ⟨io,hi',hy0,hy1,hy2⟩:=info_parts info_val;have hfa:=hf;obtain ⟨ma,mcap,hvm,q1,q2,mel⟩:=H.rows.mes;obtain ⟨mb,mo,rfl,hmb,hme⟩:=mel k hk;have em:E.f.methods[k]=m2:=by rw [← hm2];unfold meAt;rw [List.getD_eq_getElem?_getD,List.getElem?_eq_getElem hk];rfl
 rw [em] at hme;obtain ⟨vp,vc,vh,x0,x1,x2,x3,x4,x5,x6,x7,oks,sps,sco,shs⟩:=hme;have hVM:VMe w E.B (.agg #[vp,.int .i64 m2.ret.kind,.int .i64 m2.ret.cls,.int .i64 m2.stack,.int .i64 m2.locals,.int .i64 m2.regs,vc,vh]) m2:=⟨vp,vc,vh,rfl,oks,sps,sco,shs⟩;obtain ⟨pa,pcap,rfl,p1,p2,pel⟩:=id sps;obtain ⟨ca,ccap,rfl,p3,p4,pel2⟩:=id sco;obtain ⟨ha,hcap,rfl,p5,p6,pel3⟩:=id shs;obtain ⟨aa',acap',ea,a1,a2,ael⟩:=id hva;simp only [Value.slice.injEq,true_and] at ea;obtain ⟨rfl,rfl⟩:=ea;have h1c:=H.c1;rw [hvm] at h1c;have hEB:E.B≤w.heap.size:=by have:=H.rows.base;omega
 have hkl:(k:Int) < E.f.methods.length:=by omega
 have HVM:=Lib.hid hVM;have PEL:=Lib.hid pel;have AEL:=Lib.hid ael;have HLO:=Lib.hid (fun k (hk:own E L k)=>(own_lo H.rows hk).1);have hbm1:mb < w.heap.size:=by omega
 have hbm2:mb < w.heap.size+1:=by omega
 have hhb1:E.hb < w.heap.size+1:=by have:=H.rows.base.2;omega
 obtain ⟨np,hnp⟩:∃ np,np=m2.params.length:=⟨_,rfl⟩;obtain ⟨act,hact⟩:∃ act,Hid (calQ E g d m m2 ⟨rg,ap,Vl.nil,Vl.nil⟩ args h=act):=⟨_,Lib.hid rfl⟩;rw [hact.out];have HIQ:=Lib.hid HQ;have hlan:=Lib.hid (show args.length=np by omega)
 have hnp4:np≤4:=by omega
 replace hla:=Lib.hid hla;replace hnp:=Lib.hid hnp;clear HQ oks sps sco shs hVM p1 p2 pel p3 p4 pel2 p5 p6 pel3 hva ael mel q1 q2;have HH:=Lib.hid H;have HF:=Lib.hid F;have hhb:=H.rows.base.2;have hcb:=F.cbw;have hcb1:P.cb < w.heap.size+1:=by omega
 have c13:w.cell? ⟨P.cb,13,none⟩=some (.int .i64 ap):=F.c13;have hwr:IntKind.i64.wrap ((ap:Int)+1)=(ap:Int)+1:=by rw [Num.wrap_i64,wrap64_id (by unfold Ok;omega)]
 clear H F
 go_enter Try.func118,Try.ntmps118
 clear hhb;have hhb:=HH.out.rows.base.2
 go_wp2_with fail
 go_region
 go_wp2_with fail
 generalize hWW:World.drew _=W
 replace hWW:=Lib.hid hWW
 have G:=Lib.hid (show LB E L P m ⟨rg,ap,Vl.nil,Vl.nil⟩ h d w 18 k b c n (.slice aa args.length acap) [.slice pa m2.params.length pcap,.int .i64 m2.ret.kind,.int .i64 m2.ret.cls,.int .i64 m2.stack,.int .i64 m2.locals,.int .i64 m2.regs,.slice ca m2.code.length ccap,.slice ha m2.handlers.length hcap] [] Sv.run (.slice none 0 0) W from by
  rw [← hWW.out]
  exact ⟨(DB.start HH.out HF.out 63).below (by exact Rd.byB),World.ownsRow_nil _ _ _ _,(by
   have h:=Blk.made (w.alloc (.cells #[.int .i64 18,.int .i64 k,.int .i64 b,.int .i64 c,.int .i64 n,.slice aa args.length acap] 63)) [.slice pa m2.params.length pcap,.int .i64 m2.ret.kind,.int .i64 m2.ret.cls,.int .i64 m2.stack,.int .i64 m2.locals,.int .i64 m2.regs,.slice ca m2.code.length ccap,.slice ha m2.handlers.length hcap] 55;have e:(w.alloc (.cells #[.int .i64 18,.int .i64 k,.int .i64 b,.int .i64 c,.int .i64 n,.slice aa args.length acap] 63)).heap.size=w.heap.size+1:=by simp
   rw [e] at h
   exact h.drew),by simp⟩)
 clear hWW x0 x1 x2 x3 x4 x5 x6 x7 h1c c13 hvm
 go_loopw [11,12] (fun v i wr=>∃ (q:Nat) (s:Sv),i=.int .i64 q∧q≤np∧Hid (LB E L P m ⟨rg,ap,Vl.nil,Vl.nil⟩ h d w 18 k b c n (.slice aa args.length acap) [.slice pa m2.params.length pcap,.int .i64 m2.ret.kind,.int .i64 m2.ret.cls,.int .i64 m2.stack,.int .i64 m2.locals,.int .i64 m2.regs,.slice ca m2.code.length ccap,.slice ha m2.handlers.length hcap] ((args.take q).map (rd ⟨rg,ap,Vl.nil,Vl.nil⟩)) s v wr)∧Hid ((s=Sv.run∧∀ j (h1:j < m2.params.length) (h2:j < args.length),j < q→(rd ⟨rg,ap,Vl.nil,Vl.nil⟩ args[j]).kind=m2.params[j].kind)∨(s=Sv.ends 6∧act=.stop 6 h))) (fun _ i _=>np - (intOf i).toNat)
 case atStart=>exact ⟨0,Sv.run,rfl,Nat.zero_le _,G,Lib.hid (.inl ⟨rfl,fun j _ _ h=>absurd h (by omega)⟩)⟩
 case round =>
  clear G;obtain ⟨q,s,rfl,hq,G,HS⟩:=hrel;obtain ⟨ua,ucap,hu⟩:=row_any G.out.R;subst hu;have elq:((args.take q).map (rd ⟨rg,ap,Vl.nil,Vl.nil⟩)).length=q:=by rw [List.length_map,List.length_take];have:=hlan.out;omega
  rw [elq] at G ⊢;have g3:=G.out.D.sz;have gz:=G.out.sz
  by_cases hlt:q < np
  ·have hl1:q < m2.params.length:=by rw [← hnp.out];exact hlt
   have hl2:q < args.length:=by rw [hlan.out];exact hlt
   obtain ⟨pb,po,rfl,hpb,p0,p1,_⟩:=PEL.out q hl1;obtain ⟨ab,ao,rfl,hab,z0,_⟩:=AEL.out q hl2;obtain ⟨t,ht⟩:=at_of hl1;obtain ⟨x,hx⟩:=at_of hl2;obtain ⟨r0,r1⟩:=hreg q hl2;rw [ht.out] at p0 p1;rw [hx.out] at z0 r0 r1;rw [Nat.mul_one] at z0;obtain ⟨kx,rfl⟩:∃ kx:Nat,x=(kx:Int):=⟨x.toNat,by omega⟩
   rw [Int.toNat_natCast] at r1;have npb:=Lib.hid (show ¬ own E L pb from fun hk=>by have:=HLO.out _ hk;omega)
   have nab:=Lib.hid (show ¬ own E L ab from fun hk=>by have:=HLO.out _ hk;omega)
   have p0':=G.out.D.K.cell p0 npb.out;have z0':=G.out.D.K.cell z0 nab.out;have i5:=G.out.D.i5;have m0:=(G.out.M 0 (by simp)).1
   simp only [List.getElem_cons_zero] at m0;have hq1:(q:Int) < args.length:=by omega
   have hq2:(q:Int) < m2.params.length:=by omega
   have g1:=cell_lt p0';have g2:=cell_lt z0';have gm:=cell_lt m0;have g4:P.cb < wr.heap.size:=by have:=G.out.D.F.cbw;omega
   have gh:E.hb < wr.heap.size:=by have:=G.out.D.H.rows.base.2;omega
   obtain ⟨tk,tc⟩:=t;simp only at p0';clear p0 p1 z0;obtain ⟨⟨xk,xn⟩,hxv⟩:∃ v,Hid (rg.getD kx Vl.nil=v):=⟨_,Lib.hid rfl⟩;have hrx:rd ⟨rg,ap,Vl.nil,Vl.nil⟩ (kx:Int)=⟨xk,xn⟩:=by unfold rd;rw [Int.toNat_natCast];exact hxv.out
   replace hrx:=Lib.hid hrx;have hth:s.thrown = -1:=by rcases HS.out with ⟨e,_⟩ | ⟨e,_⟩ <;> rw [e] <;> rfl
   go_upto_region 21 with (fail)
   go_cut [13] from 79 to 103 (fun s13 wx=>∃ b13:Nat,s13=.pointer (some ⟨b13,0,none⟩)∧Hid (LB E L P m ⟨rg,ap,Vl.nil,Vl.nil⟩ h d w 18 k b c n (.slice (some ⟨ab,ao,none⟩) args.length acap) [.slice (some ⟨pb,po,none⟩) m2.params.length pcap,.int .i64 m2.ret.kind,.int .i64 m2.ret.cls,.int .i64 m2.stack,.int .i64 m2.locals,.int .i64 m2.regs,.slice ca m2.code.length ccap,.slice ha m2.handlers.length hcap] ((args.take q).map (rd ⟨rg,ap,Vl.nil,Vl.nil⟩)) (rdS s xk tk) (.slice ua q ucap) wx)∧wx.cell? ⟨b13,0,none⟩=some (.int .i64 xk)∧wx.cell? ⟨b13,1,none⟩=some (.int .i64 xn))
   case first =>
    refine Drawn.hd (fun w'=>w'.cell? ⟨w.heap.size,5,none⟩=some (.slice (some ⟨ab,ao,none⟩) args.length acap)∧w'.cell? ⟨ab,ao+q,none⟩=some (.int .i64 kx)∧w'.cell? ⟨w.heap.size+1,0,none⟩=some (.slice (some ⟨pb,po,none⟩) m2.params.length pcap)∧w'.cell? ⟨pb,po+q*2,none⟩=some (.int .i64 tk)) (h:=fun hHeld=>?_);refine dT 0 86 ?_;refine dT 1 87 ?_;refine dT 2 88 ?_;refine dT 3 89 ?_;refine dT 4 90 ?_;refine dT 5 91 ?_;refine dT 6 92 ?_;refine dT 7 93 ?_;refine dT 8 94 ?_;refine dT 9 95 ?_;refine dT 10 96 ?_;refine dT 11 97 ?_;refine dT 12 98 ?_;refine wpAnyH_ready (rs:=[13,14]) (by kernel_rfl) (by simp) ?_
    refine AllReadyH.cons rfl (fun K hK=>?_) (AllReadyH.cons rfl (fun K hK=>?_) AllReadyH.nil)
    ·go_simp;have G1:=Lib.hid (G.out.below (W2:=wr.drew) (by exact Rd.byB))
     refine (readq G1.out.D.H hth G1.out.D.F kx r1 h1000 ⟨xk,xn⟩ hxv tk).mono ?_;rintro e w3 ⟨rfl,H3,K3⟩;have G2:=Lib.hid (G1.out.next K3 H3);have y5:=G2.out.D.i5;have ym:=(G2.out.M 0 (by simp)).1
     simp only [List.getElem_cons_zero] at ym;have yp:=K3.cell (c:=pb) (o:=po+q*2) (v:=.int .i64 tk) (by go_simp) npb.out
     have yz:=K3.cell (c:=ab) (o:=ao+q) (v:=.int .i64 kx) (by go_simp) nab.out
     have l1:=cell_lt yp;have l2:=cell_lt yz;have l3:=cell_lt y5;have l4:=cell_lt ym;have hs3:=K3.size;clear H3 K3
     go_wp2_with fail
     refine Drawn.bk hK (hS:=by (try dsimp only);exact ⟨y5,yz,ym,yp⟩) (h:=fun hHeld=>?_)
     clear hK K;refine Drawn.cl 14 (fun K hK=>?_);go_simp;refine Drawn.bk hK (h:=fun hHeld=>?_);clear hK K;refine Drawn.cl 15 (fun K hK=>?_);go_simp;refine Drawn.bk hK (h:=fun hHeld=>?_);clear hK K;refine dN ?_
     go_wp2_with fail
     go_meet
     exact ⟨_,rfl,Lib.hid (G2.out.below (by exact Rd.byB)),by go_simp,by go_simp⟩
    ·go_simp;refine Drawn.bk hK (h:=fun hHeld=>?_);clear hK K;refine Drawn.cl 13 (fun K hK=>?_);go_simp;refine (readq (RH.below G.out.D.H (by exact Rd.byB)) hth (Fq.below G.out.D.F (by exact Rd.byB)) kx r1 h1000 ⟨xk,xn⟩ hxv tk).mono ?_
     rintro e w3 ⟨rfl,H3,K3⟩;have G2:=Lib.hid ((G.out.below (by exact Rd.byB)).next K3 H3)
     have y5:=G2.out.D.i5;have ym:=(G2.out.M 0 (by simp)).1
     simp only [List.getElem_cons_zero] at ym;have yp:=K3.cell (c:=pb) (o:=po+q*2) (v:=.int .i64 tk) (by go_simp) npb.out
     have yz:=K3.cell (c:=ab) (o:=ao+q) (v:=.int .i64 kx) (by go_simp) nab.out
     have z0':=K3.cell (c:=wr.heap.size) (o:=0) (v:=.int .i64 0) (by go_simp) (G.out.D.no (by omega))
     have z1':=K3.cell (c:=wr.heap.size) (o:=1) (v:=.int .i64 0) (by go_simp) (G.out.D.no (by omega))
     have zf0':=K3.frz (c:=wr.heap.size) (o:=0) (b:=false) (by go_simp) (by simp) (G.out.D.no (by omega))
     have zf1':=K3.frz (c:=wr.heap.size) (o:=1) (b:=false) (by go_simp) (by simp) (G.out.D.no (by omega))
     have l1:=cell_lt yp;have l2:=cell_lt yz;have l3:=cell_lt y5;have l4:=cell_lt ym;have lz:=cell_lt z0';have n1:w.heap.size≠wr.heap.size:=by omega
     have n2:w.heap.size+1≠wr.heap.size:=by omega
     have n3:pb≠wr.heap.size:=by omega
     have n4:ab≠wr.heap.size:=by omega
     have nrw:∀ g,(Value.slice ua q ucap).ownBlock=some g→g≠wr.heap.size:=fun g hg e=>by have:=(World.ownsRow.lt G.out.R g hg).2;omega
     have G4:=Lib.hid ((G2.out.box (k:=wr.heap.size) (by omega) nrw 0 (.int .i64 xk)).box (k:=wr.heap.size) (by omega) nrw 1 (.int .i64 xn))
     clear H3 K3
     go_wp2_with fail
     refine Drawn.bk hK (hS:=by (try dsimp only);exact ⟨y5,yz,ym,yp⟩) (h:=fun hHeld=>?_)
     clear hK K;refine Drawn.cl 15 (fun K hK=>?_);go_simp;refine Drawn.bk hK (h:=fun hHeld=>?_);clear hK K;refine dN ?_
     go_wp2_with fail
     go_meet
     exact ⟨_,rfl,G4,by go_simp,by go_simp⟩
   case rest =>
    obtain ⟨b13,rfl,G2,u0,u1⟩:=hcut;clear i5 m0 p0' z0' g1 g2 gm g3 gz g4 gh;have gz2:=G2.out.sz;have lu:=cell_lt u0
    go_wp2_with (at_builtin;refine wpList_append_lies _ rfl (.tmp 100) (.tmp 102) 100 rfl (w.heap.size+2) 104 io (.agg #[.int .i64 0,.int .i64 0]) 2 16 Try.underlying100 hi' hy0 hy1 hy2 rfl (by decide) (.slice ua q ucap) q (vcells ((args.take q).map (rd ⟨rg,ap,Vl.nil,Vl.nil⟩))) (by simp [Act.eval,Act.put]) (by rw [← elq];exact row_keep (by have:=G2.out.R;rw [elq] at this ⊢;exact this) (kpB (X:=fun _=>False) (w0:=wc) (by exact Rd.byB)) (fun g _ e=>e)) ⟨wc.heap.size,0,none⟩ 1 1 [.int .i64 xk,.int .i64 xn] (by simp [Act.eval,Act.put]) rfl (by exact news_of (by simp)) (by simp [Value.oneCell']) (by decide) (by unfold maxLen;omega) (by omega) (by simp;omega) _ rfl ?_;intro g2 cap2 w3 hown3 hgrow3 hat3 hlt3;have KG:=growQ (by exact Rd.byB) (G2.out.R) hgrow3;replace KG:=Lib.hid KG;replace hown3:=Lib.hid hown3;clear hgrow3 hat3)
    have D3:=Lib.hid (G2.out.D.far2 (KG.out.mono (fun k hk=>by omega)))
    have M3:=Lib.hid (G2.out.M.next KG.out (by omega))
    have hsz3:=KG.out.size
    have ee:(args.take (q+1)).map (rd ⟨rg,ap,Vl.nil,Vl.nil⟩)=(args.take q).map (rd ⟨rg,ap,Vl.nil,Vl.nil⟩)++[⟨xk,xn⟩]:=by
     rw [List.take_succ_eq_append_getElem hl2,List.map_append,List.map_cons,List.map_nil,hx.out,hrx.out]
    have el2:((args.take q).map (rd ⟨rg,ap,Vl.nil,Vl.nil⟩)++[(⟨xk,xn⟩:Vl)]).length=q+1:=by rw [List.length_append,elq];rfl
    refine ⟨⟨q+1,rdS s xk tk,by go_num,hlt,?_,?_⟩,by simp only [intOf];omega⟩
    ·rw [ee];refine Lib.hid ⟨D3.out,?_,M3.out,by omega⟩
     rw [el2,vcells_append];exact hown3.out
    ·rcases HS.out with ⟨e,hall⟩ | ⟨e,he⟩
     ·by_cases qk:xk=tk
      ·refine Lib.hid (.inl ⟨by rw [e];exact rd_run qk,fun j h1 h2 hj=>?_⟩)
       by_cases hj2:j < q
       ·exact hall j h1 h2 hj2
       ·obtain rfl:j=q:=by omega
        rw [hx.out,ht.out,hrx.out];exact qk
      ·refine Lib.hid (.inr ⟨by rw [e];exact rd_bad qk,?_⟩)
       rw [← hact.out];unfold calQ;rw [rargs_no m2.params args q hl1 hl2 (by rw [hx.out,ht.out,hrx.out];exact qk)]
     ·exact Lib.hid (.inr ⟨by rw [e];exact rd_over,he⟩)
  ·obtain rfl:q=np:=by omega
   have hqn:¬ (q:Int) < m2.params.length:=by rw [← hnp.out];omega
   have etk:args.take q=args:=by rw [← hlan.out,List.take_length]
   have i5:=G.out.D.i5;have b0:=(G.out.M 0 (by simp)).1
   have b1:=(G.out.M 1 (by simp)).1
   have b2:=(G.out.M 2 (by simp)).1
   have b3:=(G.out.M 3 (by simp)).1
   have b4:=(G.out.M 4 (by simp)).1
   have b5:=(G.out.M 5 (by simp)).1
   have b6:=(G.out.M 6 (by simp)).1
   have b7:=(G.out.M 7 (by simp)).1
   simp only [List.getElem_cons_zero,List.getElem_cons_succ] at b0 b1 b2 b3 b4 b5 b6 b7;have c12:=G.out.D.H.c12
   rcases HS.out with ⟨e,hall⟩ | ⟨e,he⟩
   ·subst e;simp only [Sv.run] at c12;have HR':=G.out.R;rw [etk] at HR';have elen:(args.map (rd ⟨rg,ap,Vl.nil,Vl.nil⟩)).length=q:=by rw [List.length_map];exact hlan.out
    have HV:=Lib.hid (vsRow (X:=own E L) (l:=args.map (rd ⟨rg,ap,Vl.nil,Vl.nil⟩)) (by rw [elen] at HR' ⊢;exact HR') (fun k hk=>by have:=G.out.D.old k hk;omega))
    have hyes:=rargs_yes (fr:=⟨rg,ap,Vl.nil,Vl.nil⟩) m2.params args hla.out (fun j h1 h2=>hall j h1 h2 (by rw [← hnp.out] at h1;exact h1))
    have hvt:=(rargs_ok hfa m2.params args _ hty hyes).1;obtain ⟨r,hr⟩:∃ r,Hid (call RM E.f E.input E.fuel g d m2 (args.map (rd ⟨rg,ap,Vl.nil,Vl.nil⟩)) h=r):=⟨_,Lib.hid rfl⟩
    have EA:Hid (act=outC RM m m2 ⟨rg,ap,Vl.nil,Vl.nil⟩ r):=by
     show _=_
     rw [← hact.out,← hr.out];unfold calQ;rw [hyes]
    have HIK:=HIQ.out k (args.map (rd ⟨rg,ap,Vl.nil,Vl.nil⟩)) h hk HO rfl hvt (by rw [hm2,List.length_map];exact hla.out) L wr (.agg #[.slice pa m2.params.length pcap,.int .i64 m2.ret.kind,.int .i64 m2.ret.cls,.int .i64 m2.stack,.int .i64 m2.locals,.int .i64 m2.regs,.slice ca m2.code.length ccap,.slice ha m2.handlers.length hcap]) (.slice ua q ucap) (own E L) G.out.D.H (by rw [hm2];exact HVM.out.mono (G.out.D.K.below hEB HLO.out) (Nat.le_refl _)) HV.out (fun _ e=>e)
    rw [hm2,hr.out] at HIK;replace HIK:=Lib.hid HIK;have D:=Lib.hid G.out.D;clear hyes hvt HIQ etk HR' elen hall HS HV
    go_wp2_with fail
    refine HIK.out.mono ?_;rintro e w5 R;obtain ⟨⟨rk,rn,rfl,R⟩,hz⟩:=R;have c9:w5.cell? ⟨P.cb,9,none⟩=some (.int .i64 0):=(rrm_kp (r:=r) R).cell (c:=P.cb) (o:=9) (v:=.int .i64 0) D.out.F.c9 D.out.F.far.1;have c10:w5.cell? ⟨P.cb,10,none⟩=some (.int .i64 0):=(rrm_kp (r:=r) R).cell (c:=P.cb) (o:=10) (v:=.int .i64 0) D.out.F.c10 D.out.F.far.1;have f9:w5.frozen? ⟨P.cb,9,none⟩=false:=(rrm_kp (r:=r) R).frz (c:=P.cb) (o:=9) (b:=false) (D.out.F.fz 9 (by decide)) D.out.F.cbw D.out.F.far.1
    have f10:w5.frozen? ⟨P.cb,10,none⟩=false:=(rrm_kp (r:=r) R).frz (c:=P.cb) (o:=10) (b:=false) (D.out.F.fz 10 (by decide)) D.out.F.cbw D.out.F.far.1
    have hcb5:=cell_lt c9
    have Z:Hid (DoQ E L P m d ⟨rg,ap,Vl.nil,Vl.nil⟩ w act (.returned (.int .i64 ((ap:Int)+1))) ((w5.setCell ⟨P.cb,9,none⟩ (.int .i64 rk)).setCell ⟨P.cb,10,none⟩ (.int .i64 rn))):=by
     show DoQ _ _ _ _ _ _ _ _ _ _
     rw [EA.out]
     cases r with
     | ok v h2 =>
      obtain ⟨⟨rfl,rfl⟩,L5,K5,N5,H5⟩:=R;obtain ⟨a1,a2,a3,a4⟩:=D.out.call K5 N5 H5 v.kind v.n;exact ⟨_,L5,rfl,a1,a2,by simp [rresume],a3,a4⟩
     | thrown o h2 =>
      obtain ⟨L5,K5,N5,H5⟩:=R;have hzz:=hz _ _ rfl;simp at hzz;obtain ⟨rfl,rfl⟩:=hzz;obtain ⟨a1,a2,a3,a4⟩:=D.out.call K5 N5 H5 0 0;exact ⟨_,L5,rfl,a1,a2,a3,a4⟩
     | stop c2 h2 =>
      obtain ⟨L5,K5,N5,H5⟩:=R;obtain ⟨a1,a2,a3,a4⟩:=D.out.call K5 N5 H5 rk rn;exact ⟨_,L5,rfl,a1,a2,a3,_,a4⟩
    clear R hz D G i5 b0 b1 b2 b3 b4 b5 b6 b7 c12
    go_wp2_with fail
    go_ret;exact Z.out
   ·subst e;simp only [Sv.ends] at c12;have Z:=Lib.hid (G.out.D.ends ((ap:Int)+1));have he':=Lib.hid he;clear HS he
    go_wp2_with fail
    go_ret;rw [he'.out];exact Z.out
end
end Rhq
namespace Rhq
open Num Rd D Run Mem HierW Hpw Rhw
theorem reg_w {regs a kind:Int}{n:Nat}{v:Vl}(h:Rform.reg regs a kind=true) (hl:n=regs.toNat) (hk:v.kind=2→kind=2):a.toNat+width v≤n:=by
 obtain ⟨h0,h1,h2⟩:=reg_iff h;unfold width
 split
 ·rename_i q;have:=h2 (hk q);omega
 ·omega
theorem reg_l {regs a kind:Int}{n:Nat}(h:Rform.reg regs a kind=true) (hl:n=regs.toNat):0≤a∧a.toNat < n:=by
 obtain ⟨h0,h1,h2⟩:=reg_iff h;exact ⟨h0,by omega⟩
theorem reckon_kind {l:List Cls}{a b v:Vl}{k op:Int}{h h':Hp}(e:Run.reckon l a b k op h=.ok v h'):v.kind=k:=by
 unfold Run.reckon at e
 split at e
 ·cases e
 ·split at e
  ·unfold Run.raise at e
   cases hn:Run.new l 2 h <;> rw [hn] at e <;> cases e
  ·cases e;rfl
theorem new_kind {l:List Cls}{v:Vl}{cl:Int}{h h':Hp}(e:Run.new l cl h=.ok v h'):v.kind=3:=by
 unfold Run.new at e
 split at e
 ·cases e
 ·cases e;rfl
theorem isV_kind {l:List Cls}{v x:Vl}{cl:Int}{h h':Hp}(e:Run.isV l v cl h=.ok x h'):x.kind=1:=by
 unfold Run.isV at e
 split at e
 ·cases e
 ·cases e;rfl
theorem rargs_same {fr fr2:Rf}(e:fr.regs=fr2.regs):∀ (xs:List Int) (ts:List Ty),rargs fr xs ts=rargs fr2 xs ts
 | xs,[]=>by cases xs <;> rfl
 | [],_ :: _=>rfl
 | x :: xs,t :: ts=>by
  have q:rd fr x=rd fr2 x:=by unfold rd;rw [e]
  simp only [rargs];rw [rargs_same e xs ts,q]
theorem mAt_eq {f:Fi}{k:Nat}(hk:k < f.methods.length):Rform.mAt f.methods (k:Int)=(meAt f k).params:=by
 unfold Rform.mAt meAt;rw [Int.toNat_natCast,List.getD_eq_getElem?_getD,List.getElem?_map,List.getD_eq_getElem?_getD,List.getElem?_eq_getElem hk];rfl
theorem ty_kind {n:Int}{t:Ty}(h:Hier.ty n t=true):1≤t.kind∧t.kind≤3:=by
 unfold Hier.ty at h
 split at h
 ·omega
 ·split at h
  ·omega
  ·cases h
theorem regs_at {regs:Int}{n:Nat}{ps:List Ty}{xs:List Int}(h:Rform.regsOk regs ps xs=true) (hl:n=regs.toNat) (he:xs.length=ps.length):∀ j (hj:j < xs.length),0≤xs[j]∧xs[j].toNat < n:=by
 intro j hj
 unfold Rform.regsOk at h
 have:=List.all_eq_true.1 h j (List.mem_range.2 (by omega))
 rw [List.getD_eq_getElem?_getD,List.getElem?_eq_getElem hj] at this;exact reg_l this hl
theorem throw_no {l:List Cls}{v:Vl}{h h2:Hp}{u:Unit}(hr:(Run.throw l v h:Res Unit)=.ok u h2):False:=by
 unfold Run.throw raise new at hr
 split at hr
 ·cases hr
 ·split at hr
  ·split at hr <;> cases hr
  ·cases hr
section
variable {E:Ev}{w:World}{L:RL}{h:Hp}{d:Nat}{P:Pl}{m:Me}{rg:List Vl}{ap:Nat}
theorem gEq {f:Fi}{input:List Int}{fuel g ka:Nat}{r:Res Vl}:outA RM f input fuel g d m (r.act fun v h=>rset ⟨rg,ap,Vl.nil,Vl.nil⟩ (ka:Int) v h)=oQ (r.act fun v h=>.go ⟨Run.store rg ka v,ap+1,Vl.nil,Vl.nil⟩ h):=by cases r <;> rfl
theorem uEq {f:Fi}{input:List Int}{fuel g:Nat}{r:Res Unit}:outA RM f input fuel g d m (r.act fun _ h=>rgo ⟨rg,ap,Vl.nil,Vl.nil⟩ (ap+1) h)=oQ (r.act fun _ h=>.go ⟨rg,ap+1,Vl.nil,Vl.nil⟩ h):=by cases r <;> rfl
theorem kindR {fr:Rf}{v x:Vl}{c a:Int}:rkind v c h (rset fr a x h)=((if v.kind=c then Res.ok x h else Res.stop 6 h:Res Vl).act fun v h=>rset fr a v h):=by
 unfold rkind
 by_cases q:v.kind=c
 ·rw [if_pos q,if_pos q];rfl
 ·rw [if_neg q,if_neg q];rfl
theorem kindA {α:Type}{v:Vl}{c:Int}{r:Res α}{k:α→Hp→Run.Act Rf}(hs:¬ v.kind=c→r=.stop 6 h):rkind v c h (r.act k)=r.act k:=by
 unfold rkind
 by_cases q:v.kind=c
 ·rw [if_pos q]
 ·rw [if_neg q,hs q];rfl
theorem get_k {l:List Cls}{v:Vl}{c n:Int}(q:¬ v.kind=3):Run.get l v c n h=.stop 6 h:=by unfold Run.get ofT;rw [if_pos (by simp [q])]
theorem isV_k {l:List Cls}{v:Vl}{c:Int}(q:¬ v.kind=3):Run.isV l v c h=.stop 6 h:=by unfold Run.isV;rw [if_pos q]
theorem cast_k {l:List Cls}{v:Vl}{c:Int}(q:¬ v.kind=3):Run.cast l v c h=.stop 6 h:=by unfold Run.cast;rw [if_pos q]
theorem throw_k {l:List Cls}{v:Vl}(q:¬ v.kind=3):(Run.throw l v h:Res Unit)=.stop 6 h:=by unfold Run.throw;rw [if_pos q]
theorem emit_k {v:Vl}{k:Int}(q:¬ v.kind=k):Run.emit v k h=.stop 6 h:=by unfold Run.emit;rw [if_pos q]
theorem regw {regs kind:Int}{ka n:Nat}{v:Vl}(h:Rform.reg regs (ka:Int) kind=true) (hl:n=regs.toNat) (hk:v.kind=2→kind=2):ka+width v≤n:=by
 have:=reg_w h hl hk
 rwa [Int.toNat_natCast] at this
theorem regl {regs x kind:Int}{n:Nat}(h:Rform.reg regs x kind=true) (hl:n=regs.toNat):∃ k:Nat,x=(k:Int)∧k < n:=by
 have:=reg_l h hl
 exact ⟨x.toNat,by omega,this.2⟩
theorem rdv (k:Nat):∃ xk xn:Int,Hid (rg.getD k Vl.nil=⟨xk,xn⟩)∧rd ⟨rg,ap,Vl.nil,Vl.nil⟩ (k:Int)=⟨xk,xn⟩:=by
 refine ⟨(rg.getD k Vl.nil).kind,(rg.getD k Vl.nil).n,Lib.hid rfl,?_⟩;unfold rd;rw [Int.toNat_natCast]
theorem doesQ (FS:FiR E.f) (MS:MeR E.f m) (H:RH E w L h d Sv.run) (F:Fq E w L P m ⟨rg,ap,Vl.nil,Vl.nil⟩) (HO:HpOk E.f.classes E.input E.fuel h) (hf:RfOk m h.objs.length ⟨rg,ap,Vl.nil,Vl.nil⟩) (hat:ap≤100000) (hfu:E.fuel≤60000) (hin:E.input.length≤1000) (g:Nat) (HQ:RunQ E d g h) (op a b c n:Int) (args:List Int) (hI:Rform.ins E.f m ⟨op,a,b,c,n,args⟩=true) (h19:op≠19) (h20:op≠20) (h22:op≠22) (aa:Option Addr) (acap:Nat) (hva:Sl 1 EInt w E.B (.slice aa args.length acap) args) :
  Calls Try.prog 118 #[.pointer (some ⟨E.hb,0,none⟩),.pointer (some ⟨P.cb,0,none⟩),.agg #[.int .i64 op,.int .i64 a,.int .i64 b,.int .i64 c,.int .i64 n,.slice aa args.length acap]] w (DoQ E L P m d ⟨rg,ap,Vl.nil,Vl.nil⟩ w (outA RM E.f E.input E.fuel g d m (RM.step E.f E.input m ⟨op,a,b,c,n,args⟩ ⟨rg,ap,Vl.nil,Vl.nil⟩ h))):=by
 have hl:rg.length=m.regs.toNat:=hf.len;have hP:Paired rg:=hf.regs.pair;have h1000:rg.length≤1000:=by have:=MS.regs.2.2;omega
 have hm:=FS.may;have rv:∀ a:Int,VlOk h.objs.length (rd ⟨rg,ap,Vl.nil,Vl.nil⟩ a):=fun a=>rd_ok hf a;have hout:h.out.length≤60000:=by have h1:=HO.outs;have h2:=HO.steps;omega
 simp only [Rform.ins,Bool.and_eq_true] at hI;obtain ⟨⟨_,hb⟩,_⟩:=hI
 by_cases q1:op=1
 ·subst q1;simp [Rform.body] at hb;obtain ⟨ka,rfl,hka⟩:=regl hb.1.1 hl;have e:outA RM E.f E.input E.fuel g d m (RM.step E.f E.input m ⟨1,(ka:Int),b,c,n,args⟩ ⟨rg,ap,Vl.nil,Vl.nil⟩ h)=oQ ((Res.ok ⟨1,n⟩ h:Res Vl).act fun v h=>.go ⟨Run.store rg ka v,ap+1,Vl.nil,Vl.nil⟩ h):=rfl;rw [e];exact dqG H F h1000 hat 1 b aa args.length acap c n ka hP (.ok ⟨1,n⟩ h) (fun x h2 e=>by cases e;exact regw hb.1.1 hl (by simp)) (fun W H F=>gv1 H F h1000 ka b c n _) rfl rfl rfl rfl rfl rfl rfl rfl
 by_cases q2:op=2
 ·subst q2;simp [Rform.body] at hb;obtain ⟨ka,rfl,hka⟩:=regl hb.1.1 hl;have e:outA RM E.f E.input E.fuel g d m (RM.step E.f E.input m ⟨2,(ka:Int),b,c,n,args⟩ ⟨rg,ap,Vl.nil,Vl.nil⟩ h)=oQ ((Res.ok ⟨2,n⟩ h:Res Vl).act fun v h=>.go ⟨Run.store rg ka v,ap+1,Vl.nil,Vl.nil⟩ h):=rfl;rw [e];exact dqG H F h1000 hat 2 b aa args.length acap c n ka hP (.ok ⟨2,n⟩ h) (fun x h2 e=>by cases e;exact regw hb.1.1 hl (by simp)) (fun W H F=>gv2 H F h1000 ka b c n _) rfl rfl rfl rfl rfl rfl rfl rfl
 by_cases q3:op=3
 ·subst q3;simp [Rform.body] at hb;obtain ⟨ka,rfl,hka⟩:=regl hb.1.1 hl;have e:outA RM E.f E.input E.fuel g d m (RM.step E.f E.input m ⟨3,(ka:Int),b,c,n,args⟩ ⟨rg,ap,Vl.nil,Vl.nil⟩ h)=oQ ((Res.ok ⟨3,-1⟩ h:Res Vl).act fun v h=>.go ⟨Run.store rg ka v,ap+1,Vl.nil,Vl.nil⟩ h):=rfl;rw [e];exact dqG H F h1000 hat 3 b aa args.length acap c n ka hP (.ok ⟨3,-1⟩ h) (fun x h2 e=>by cases e;exact regw hb.1.1 hl (by simp)) (fun W H F=>gv3 H F h1000 ka b c n _) rfl rfl rfl rfl rfl rfl rfl rfl
 by_cases q4:op=4
 ·subst q4;simp [Rform.body,rng_iff] at hb;obtain ⟨ka,rfl,hka⟩:=regl hb.2.1 hl;obtain ⟨kb,rfl,hkb⟩:=regl hb.2.2 hl;obtain ⟨xk,xn,hxv,hrx⟩:=rdv (rg:=rg) (ap:=ap) kb
  have e:outA RM E.f E.input E.fuel g d m (RM.step E.f E.input m ⟨4,(ka:Int),(kb:Int),c,n,args⟩ ⟨rg,ap,Vl.nil,Vl.nil⟩ h)=oQ ((if xk=c then Res.ok ⟨xk,xn⟩ h else Res.stop 6 h:Res Vl).act fun v h=>.go ⟨Run.store rg ka v,ap+1,Vl.nil,Vl.nil⟩ h):=by
   rw [← gEq (f:=E.f) (input:=E.input) (fuel:=E.fuel) (g:=g) (d:=d) (m:=m)]
   show outA RM E.f E.input E.fuel g d m (r4 ⟨4,(ka:Int),(kb:Int),c,n,args⟩ ⟨rg,ap,Vl.nil,Vl.nil⟩ h)=_
   unfold r4;simp only;rw [hrx,kindR]
  rw [e]
  exact dqG H F h1000 hat 4 kb aa args.length acap c n ka hP _ (fun x h2 e=>by
   split at e
   ·cases e;exact regw hb.2.1 hl (fun e2=>by rename_i q;rw [← q];exact e2)
   ·cases e) (fun W H F=>gv4 H F h1000 ka c n kb hkb xk xn hxv _ _ rfl) rfl rfl rfl rfl rfl rfl rfl rfl
 by_cases q7:op=7
 ·subst q7;simp [Rform.body,rng_iff] at hb;obtain ⟨ka,rfl,hka⟩:=regl hb.1.1 hl;obtain ⟨kb,rfl,hkb⟩:=regl hb.1.2 hl;obtain ⟨xk,xn,hxv,hrx⟩:=rdv (rg:=rg) (ap:=ap) kb
  have e:outA RM E.f E.input E.fuel g d m (RM.step E.f E.input m ⟨7,(ka:Int),(kb:Int),c,n,args⟩ ⟨rg,ap,Vl.nil,Vl.nil⟩ h)=oQ ((if xk=1 then Res.ok ⟨2,xn⟩ h else Res.stop 6 h:Res Vl).act fun v h=>.go ⟨Run.store rg ka v,ap+1,Vl.nil,Vl.nil⟩ h):=by
   rw [← gEq (f:=E.f) (input:=E.input) (fuel:=E.fuel) (g:=g) (d:=d) (m:=m)]
   show outA RM E.f E.input E.fuel g d m (r7 ⟨7,(ka:Int),(kb:Int),c,n,args⟩ ⟨rg,ap,Vl.nil,Vl.nil⟩ h)=_
   unfold r7;simp only;rw [hrx,kindR]
  rw [e]
  exact dqG H F h1000 hat 7 kb aa args.length acap c n ka hP _ (fun x h2 e=>by
   split at e
   ·cases e;exact regw hb.1.1 hl (by simp)
   ·cases e) (fun W H F=>gv7 H F h1000 ka c n kb hkb xk xn hxv _ _ rfl) rfl rfl rfl rfl rfl rfl rfl rfl
 by_cases q8:op=8
 ·subst q8;simp [Rform.body,rng_iff] at hb;obtain ⟨ka,rfl,hka⟩:=regl hb.1.1 hl;obtain ⟨kb,rfl,hkb⟩:=regl hb.1.2 hl;obtain ⟨xk,xn,hxv,hrx⟩:=rdv (rg:=rg) (ap:=ap) kb
  have e:outA RM E.f E.input E.fuel g d m (RM.step E.f E.input m ⟨8,(ka:Int),(kb:Int),c,n,args⟩ ⟨rg,ap,Vl.nil,Vl.nil⟩ h)=oQ ((if xk=2 then Res.ok ⟨1,wrap32 xn⟩ h else Res.stop 6 h:Res Vl).act fun v h=>.go ⟨Run.store rg ka v,ap+1,Vl.nil,Vl.nil⟩ h):=by
   rw [← gEq (f:=E.f) (input:=E.input) (fuel:=E.fuel) (g:=g) (d:=d) (m:=m)]
   show outA RM E.f E.input E.fuel g d m (r8 ⟨8,(ka:Int),(kb:Int),c,n,args⟩ ⟨rg,ap,Vl.nil,Vl.nil⟩ h)=_
   unfold r8;simp only;rw [hrx,kindR]
  rw [e]
  exact dqG H F h1000 hat 8 kb aa args.length acap c n ka hP _ (fun x h2 e=>by
   split at e
   ·cases e;exact regw hb.1.1 hl (by simp)
   ·cases e) (fun W H F=>gv8 H F h1000 ka c n kb hkb xk xn hxv _ _ rfl) rfl rfl rfl rfl rfl rfl rfl rfl
 by_cases q5:op=5
 ·subst q5;simp [Rform.body] at hb;obtain ⟨ka,rfl,hka⟩:=regl hb.1 hl;obtain ⟨kb,rfl,hkb⟩:=regl hb.2.1 hl;obtain ⟨kc,rfl,hkc⟩:=regl hb.2.2 hl;obtain ⟨xk,xn,hxv,hrx⟩:=rdv (rg:=rg) (ap:=ap) kb;obtain ⟨yk,yn,hyv,hry⟩:=rdv (rg:=rg) (ap:=ap) kc;have hx:=rv kb;have hy:=rv kc;rw [hrx] at hx;rw [hry] at hy
  have e:outA RM E.f E.input E.fuel g d m (RM.step E.f E.input m ⟨5,(ka:Int),(kb:Int),(kc:Int),n,args⟩ ⟨rg,ap,Vl.nil,Vl.nil⟩ h)=oQ ((Run.reckon E.f.classes ⟨xk,xn⟩ ⟨yk,yn⟩ 1 n h).act fun v h=>.go ⟨Run.store rg ka v,ap+1,Vl.nil,Vl.nil⟩ h):=by
   rw [← gEq (f:=E.f) (input:=E.input) (fuel:=E.fuel) (g:=g) (d:=d) (m:=m)]
   show outA RM E.f E.input E.fuel g d m (r56 E.f.classes 1 ⟨5,(ka:Int),(kb:Int),(kc:Int),n,args⟩ ⟨rg,ap,Vl.nil,Vl.nil⟩ h)=_
   unfold r56;simp only;rw [hrx,hry]
  rw [e];exact dqG H F h1000 hat 5 kb aa args.length acap kc n ka hP _ (fun x h2 e=>regw hb.1 hl (fun e2=>by have:=reckon_kind e;omega)) (fun W H F=>gv5 H F h1000 ka n kb hkb xk xn hxv kc hkc yk yn hyv hm hx.1 hy.1 _) rfl rfl rfl rfl rfl rfl rfl rfl
 by_cases q6:op=6
 ·subst q6;simp [Rform.body] at hb;obtain ⟨ka,rfl,hka⟩:=regl hb.1 hl;obtain ⟨kb,rfl,hkb⟩:=regl hb.2.1 hl;obtain ⟨kc,rfl,hkc⟩:=regl hb.2.2 hl;obtain ⟨xk,xn,hxv,hrx⟩:=rdv (rg:=rg) (ap:=ap) kb;obtain ⟨yk,yn,hyv,hry⟩:=rdv (rg:=rg) (ap:=ap) kc;have hx:=rv kb;have hy:=rv kc;rw [hrx] at hx;rw [hry] at hy
  have e:outA RM E.f E.input E.fuel g d m (RM.step E.f E.input m ⟨6,(ka:Int),(kb:Int),(kc:Int),n,args⟩ ⟨rg,ap,Vl.nil,Vl.nil⟩ h)=oQ ((Run.reckon E.f.classes ⟨xk,xn⟩ ⟨yk,yn⟩ 2 n h).act fun v h=>.go ⟨Run.store rg ka v,ap+1,Vl.nil,Vl.nil⟩ h):=by
   rw [← gEq (f:=E.f) (input:=E.input) (fuel:=E.fuel) (g:=g) (d:=d) (m:=m)]
   show outA RM E.f E.input E.fuel g d m (r56 E.f.classes 2 ⟨6,(ka:Int),(kb:Int),(kc:Int),n,args⟩ ⟨rg,ap,Vl.nil,Vl.nil⟩ h)=_
   unfold r56;simp only;rw [hrx,hry]
  rw [e];exact dqG H F h1000 hat 6 kb aa args.length acap kc n ka hP _ (fun x h2 e=>regw hb.1 hl (fun e2=>by have:=reckon_kind e;omega)) (fun W H F=>gv6 H F h1000 ka n kb hkb xk xn hxv kc hkc yk yn hyv hm hx.1 hy.1 _) rfl rfl rfl rfl rfl rfl rfl rfl
 by_cases q9:op=9
 ·subst q9;simp [Rform.body] at hb;obtain ⟨ka,rfl,hka⟩:=regl hb.1 hl;obtain ⟨kb,rfl,hkb⟩:=regl hb.2.1 hl;obtain ⟨kc,rfl,hkc⟩:=regl hb.2.2 hl;obtain ⟨xk,xn,hxv,hrx⟩:=rdv (rg:=rg) (ap:=ap) kb;obtain ⟨yk,yn,hyv,hry⟩:=rdv (rg:=rg) (ap:=ap) kc
  have e:outA RM E.f E.input E.fuel g d m (RM.step E.f E.input m ⟨9,(ka:Int),(kb:Int),(kc:Int),n,args⟩ ⟨rg,ap,Vl.nil,Vl.nil⟩ h)=oQ ((if xk=2 then (if yk=2 then Res.ok ⟨1,Num.cmp xn yn⟩ h else Res.stop 6 h) else Res.stop 6 h:Res Vl).act fun v h=>.go ⟨Run.store rg ka v,ap+1,Vl.nil,Vl.nil⟩ h):=by
   rw [← gEq (f:=E.f) (input:=E.input) (fuel:=E.fuel) (g:=g) (d:=d) (m:=m)]
   show outA RM E.f E.input E.fuel g d m (r9 ⟨9,(ka:Int),(kb:Int),(kc:Int),n,args⟩ ⟨rg,ap,Vl.nil,Vl.nil⟩ h)=_
   unfold r9;simp only;rw [hrx,hry];unfold rkind
   by_cases q:xk=2
   ·by_cases q2:yk=2
    ·rw [if_pos q,if_pos q2,if_pos q,if_pos q2];rfl
    ·rw [if_pos q,if_neg q2,if_pos q,if_neg q2];rfl
   ·rw [if_neg q,if_neg q];rfl
  rw [e]
  exact dqG H F h1000 hat 9 kb aa args.length acap kc n ka hP _ (fun x h2 e=>by
   split at e
   ·split at e
    ·cases e;exact regw hb.1 hl (by simp)
    ·cases e
   ·cases e) (fun W H F=>gv9 H F h1000 ka n kb hkb xk xn hxv kc hkc yk yn hyv _ _ rfl) rfl rfl rfl rfl rfl rfl rfl rfl
 by_cases q10:op=10
 ·subst q10;simp [Rform.body,rng_iff] at hb;obtain ⟨ka,rfl⟩:∃ k:Nat,a=(k:Int):=⟨a.toNat,by omega⟩
  exact dq10 H F h1000 hat b c n ka _
 by_cases q11:op=11
 ·subst q11;simp [Rform.body,rng_iff] at hb;obtain ⟨ka,rfl⟩:∃ k:Nat,a=(k:Int):=⟨a.toNat,by omega⟩
  obtain ⟨kc,rfl,hkc⟩:=regl hb.2 hl;obtain ⟨yk,yn,hyv,hry⟩:=rdv (rg:=rg) (ap:=ap) kc;refine dq11 H F h1000 hat b n ka kc hkc yk yn hyv _ _ ?_
  show outA RM E.f E.input E.fuel g d m (r11 ⟨11,(ka:Int),b,(kc:Int),n,args⟩ ⟨rg,ap,Vl.nil,Vl.nil⟩ h)=_
  unfold r11;simp only;rw [hry];unfold rkind rgo
  by_cases q:yk=1
  ·rw [if_pos q,if_pos q,Int.toNat_natCast];rfl
  ·rw [if_neg q,if_neg q];rfl
 by_cases q12:op=12
 ·subst q12;simp [Rform.body,rng_iff] at hb;obtain ⟨ka,rfl⟩:∃ k:Nat,a=(k:Int):=⟨a.toNat,by omega⟩
  obtain ⟨kc,rfl,hkc⟩:=regl hb.2 hl;obtain ⟨yk,yn,hyv,hry⟩:=rdv (rg:=rg) (ap:=ap) kc;refine dq12 H F h1000 hat b n ka kc hkc yk yn hyv _ _ ?_
  show outA RM E.f E.input E.fuel g d m (r12 ⟨12,(ka:Int),b,(kc:Int),n,args⟩ ⟨rg,ap,Vl.nil,Vl.nil⟩ h)=_
  unfold r12;simp only;rw [hry];unfold rkind rgo
  by_cases q:yk=3
  ·rw [if_pos q,if_pos q,Int.toNat_natCast];rfl
  ·rw [if_neg q,if_neg q];rfl
 by_cases q13:op=13
 ·subst q13;simp [Rform.body,rng_iff] at hb;obtain ⟨ka,rfl,hka⟩:=regl hb.1.1 hl;have e:outA RM E.f E.input E.fuel g d m (RM.step E.f E.input m ⟨13,(ka:Int),b,c,n,args⟩ ⟨rg,ap,Vl.nil,Vl.nil⟩ h)=oQ ((Run.new E.f.classes b h).act fun v h=>.go ⟨Run.store rg ka v,ap+1,Vl.nil,Vl.nil⟩ h):=gEq;rw [e];exact dqG H F h1000 hat 13 b aa args.length acap c n ka hP _ (fun x h2 e=>regw hb.1.1 hl (fun e2=>by have:=new_kind e;omega)) (fun W H F=>gv13 H F h1000 ka b c n hm _) rfl rfl rfl rfl rfl rfl rfl rfl
 by_cases q14:op=14
 ·subst q14;simp [Rform.body,rng_iff] at hb;obtain ⟨⟨⟨⟨hc0,hc1⟩,hn0,hn1⟩,hra⟩,hrb⟩:=hb;obtain ⟨ka,rfl,hka⟩:=regl hra hl;obtain ⟨kb,rfl,hkb⟩:=regl hrb hl;obtain ⟨xk,xn,hxv,hrx⟩:=rdv (rg:=rg) (ap:=ap) kb;have hx:=rv kb;rw [hrx] at hx
  have e:outA RM E.f E.input E.fuel g d m (RM.step E.f E.input m ⟨14,(ka:Int),(kb:Int),c,n,args⟩ ⟨rg,ap,Vl.nil,Vl.nil⟩ h)=oQ ((Run.get E.f.classes ⟨xk,xn⟩ c n h).act fun v h=>.go ⟨Run.store rg ka v,ap+1,Vl.nil,Vl.nil⟩ h):=by
   rw [← gEq (f:=E.f) (input:=E.input) (fuel:=E.fuel) (g:=g) (d:=d) (m:=m)]
   show outA RM E.f E.input E.fuel g d m (r14 E.f.classes ⟨14,(ka:Int),(kb:Int),c,n,args⟩ ⟨rg,ap,Vl.nil,Vl.nil⟩ h)=_
   unfold r14;simp only;rw [hrx,kindA (fun q=>get_k q)]
  rw [e]
  exact dqG H F h1000 hat 14 kb aa args.length acap c n ka hP _ (fun x h2 e=>regw hra hl (fun e2=>by
   have hg:=get_ok hm HO hx (c:=c) (k:=n) ⟨hc0,hc1⟩ ⟨hn0,by unfold Form.nf at hn1;omega⟩
   rw [e] at hg
   rw [← e2,hg.2.2.2.2.2];rfl)) (fun W H F=>gv14 H F h1000 ka c n kb hkb xk xn hxv hm HO hx _) rfl rfl rfl rfl rfl rfl rfl rfl
 by_cases q15:op=15
 ·subst q15;simp [Rform.body,rng_iff] at hb;obtain ⟨⟨⟨⟨hc0,hc1⟩,hn0,hn1⟩,hra⟩,hrb⟩:=hb;obtain ⟨ka,rfl,hka⟩:=regl hra hl;obtain ⟨kb,rfl,hkb⟩:=regl hrb hl;obtain ⟨kc,rfl⟩:∃ k:Nat,c=(k:Int):=⟨c.toNat,by omega⟩
  obtain ⟨kn,rfl⟩:∃ k:Nat,n=(k:Int):=⟨n.toNat,by omega⟩
  obtain ⟨xk,xn,hxv,hrx⟩:=rdv (rg:=rg) (ap:=ap) kb;obtain ⟨yk,yn,hyv,hry⟩:=rdv (rg:=rg) (ap:=ap) ka;have hx:=rv kb;have hy:=rv ka;rw [hrx] at hx;rw [hry] at hy;have hkn:kn < (Hier.at' E.f.classes kc).fields.length:=by unfold Form.nf at hn1;rw [Int.toNat_natCast] at hn1;omega
  have e:outA RM E.f E.input E.fuel g d m (RM.step E.f E.input m ⟨15,(ka:Int),(kb:Int),(kc:Int),(kn:Int),args⟩ ⟨rg,ap,Vl.nil,Vl.nil⟩ h)=oQ ((Run.put E.f.classes ⟨xk,xn⟩ kc kn ⟨yk,yn⟩ (ftype E.f.classes kc kn) h).act fun _ h=>.go ⟨rg,ap+1,Vl.nil,Vl.nil⟩ h):=by
   rw [← uEq (f:=E.f) (input:=E.input) (fuel:=E.fuel) (g:=g) (d:=d) (m:=m)]
   show outA RM E.f E.input E.fuel g d m (r15 E.f.classes ⟨15,(ka:Int),(kb:Int),(kc:Int),(kn:Int),args⟩ ⟨rg,ap,Vl.nil,Vl.nil⟩ h)=_
   unfold r15;simp only;rw [hrx,hry,kindA (c:=(ftype E.f.classes kc kn).kind) (fun q=>put_v q),kindA (fun q=>put_r q)]
  rw [e];exact dq15 H F h1000 hat ka hka yk yn hyv kb hkb xk xn hxv kc kn (by omega) hkn hm HO hy hx _
 by_cases q16:op=16
 ·subst q16;simp [Rform.body,rng_iff] at hb;obtain ⟨ka,rfl,hka⟩:=regl hb.1.1 hl;obtain ⟨xk,xn,hxv,hrx⟩:=rdv (rg:=rg) (ap:=ap) ka;have hx:=rv ka;rw [hrx] at hx
  have e:outA RM E.f E.input E.fuel g d m (RM.step E.f E.input m ⟨16,(ka:Int),b,c,n,args⟩ ⟨rg,ap,Vl.nil,Vl.nil⟩ h)=oQ ((Run.cast E.f.classes ⟨xk,xn⟩ b h).act fun _ h=>.go ⟨rg,ap+1,Vl.nil,Vl.nil⟩ h):=by
   rw [← uEq (f:=E.f) (input:=E.input) (fuel:=E.fuel) (g:=g) (d:=d) (m:=m)]
   show outA RM E.f E.input E.fuel g d m (r16 E.f.classes ⟨16,(ka:Int),b,c,n,args⟩ ⟨rg,ap,Vl.nil,Vl.nil⟩ h)=_
   unfold r16;simp only;rw [hrx,kindA (fun q=>cast_k q)]
  rw [e];exact dq16 H F h1000 hat b c n ka hka xk xn hxv hm hx _
 by_cases q21:op=21
 ·subst q21;simp [Rform.body,rng_iff] at hb;obtain ⟨ka,rfl,hka⟩:=regl hb.1.1 hl;obtain ⟨xk,xn,hxv,hrx⟩:=rdv (rg:=rg) (ap:=ap) ka;have hx:=rv ka;rw [hrx] at hx
  have e:outA RM E.f E.input E.fuel g d m (RM.step E.f E.input m ⟨21,(ka:Int),b,c,n,args⟩ ⟨rg,ap,Vl.nil,Vl.nil⟩ h)=oQ ((Run.throw E.f.classes ⟨xk,xn⟩ h:Res Unit).act fun _ h=>.go ⟨rg,ap+1,Vl.nil,Vl.nil⟩ h):=by
   show outA RM E.f E.input E.fuel g d m (r21 E.f.classes ⟨21,(ka:Int),b,c,n,args⟩ ⟨rg,ap,Vl.nil,Vl.nil⟩ h)=_
   unfold r21;simp only;rw [hrx,kindA (fun q=>throw_k q)]
   cases hr:(Run.throw E.f.classes ⟨xk,xn⟩ h:Res Unit) with
   | ok u h2=>exact (throw_no hr).elim
   | thrown o h2=>rfl
   | stop c h2=>rfl
  rw [e];exact dq21 H F h1000 hat b c n ka hka xk xn hxv hm _
 by_cases q23:op=23
 ·subst q23;simp [Rform.body,rng_iff] at hb;obtain ⟨ka,rfl,hka⟩:=regl hb.1.2 hl;obtain ⟨xk,xn,hxv,hrx⟩:=rdv (rg:=rg) (ap:=ap) ka;have hx:=rv ka;rw [hrx] at hx
  have e:outA RM E.f E.input E.fuel g d m (RM.step E.f E.input m ⟨23,(ka:Int),b,c,n,args⟩ ⟨rg,ap,Vl.nil,Vl.nil⟩ h)=oQ ((Run.emit ⟨xk,xn⟩ b h).act fun _ h=>.go ⟨rg,ap+1,Vl.nil,Vl.nil⟩ h):=by
   rw [← uEq (f:=E.f) (input:=E.input) (fuel:=E.fuel) (g:=g) (d:=d) (m:=m)]
   show outA RM E.f E.input E.fuel g d m (r23 ⟨23,(ka:Int),b,c,n,args⟩ ⟨rg,ap,Vl.nil,Vl.nil⟩ h)=_
   unfold r23;simp only;rw [hrx,kindA (fun q=>emit_k q)]
  rw [e];exact dq23 H F h1000 hat b c n ka hka xk xn hxv hout _
 by_cases q17:op=17
 ·subst q17;simp [Rform.body,rng_iff] at hb;obtain ⟨ka,rfl,hka⟩:=regl hb.1.1 hl;obtain ⟨kb,rfl,hkb⟩:=regl hb.1.2 hl;obtain ⟨xk,xn,hxv,hrx⟩:=rdv (rg:=rg) (ap:=ap) kb;have hx:=rv kb;rw [hrx] at hx
  have e:outA RM E.f E.input E.fuel g d m (RM.step E.f E.input m ⟨17,(ka:Int),(kb:Int),c,n,args⟩ ⟨rg,ap,Vl.nil,Vl.nil⟩ h)=oQ ((Run.isV E.f.classes ⟨xk,xn⟩ c h).act fun v h=>.go ⟨Run.store rg ka v,ap+1,Vl.nil,Vl.nil⟩ h):=by
   rw [← gEq (f:=E.f) (input:=E.input) (fuel:=E.fuel) (g:=g) (d:=d) (m:=m)]
   show outA RM E.f E.input E.fuel g d m (r17 E.f.classes ⟨17,(ka:Int),(kb:Int),c,n,args⟩ ⟨rg,ap,Vl.nil,Vl.nil⟩ h)=_
   unfold r17;simp only;rw [hrx,kindA (fun q=>isV_k q)]
  rw [e];exact dqG H F h1000 hat 17 kb aa args.length acap c n ka hP _ (fun x h2 e=>regw hb.1.1 hl (fun e2=>by have:=isV_kind e;omega)) (fun W H F=>gv17 H F h1000 ka c n kb hkb xk xn hxv hm hx _) rfl rfl rfl rfl rfl rfl rfl rfl
 by_cases q18:op=18
 ·subst q18;simp [Rform.body,rng_iff] at hb;obtain ⟨⟨⟨⟨⟨ha0,ha1⟩,hln⟩,hro⟩,rfl⟩,rfl⟩:=hb;obtain ⟨ka,rfl⟩:∃ k:Nat,a=(k:Int):=⟨a.toNat,by omega⟩
  have hka:ka < E.f.methods.length:=by omega
  rw [mAt_eq hka] at hln hro;have M2:=FS.mes _ (meAt_mem hka)
  have e:outA RM E.f E.input E.fuel g d m (RM.step E.f E.input m ⟨18,(ka:Int),0,0,n,args⟩ ⟨rg,ap,Vl.nil,Vl.nil⟩ h)=calQ E g d m (meAt E.f ka) ⟨rg,ap,Vl.nil,Vl.nil⟩ args h:=by
   show outA RM E.f E.input E.fuel g d m (r18 E.f ⟨18,(ka:Int),0,0,n,args⟩ ⟨rg,ap,Vl.nil,Vl.nil⟩ h)=_
   unfold r18 calQ;simp only [Int.toNat_natCast]
   cases rargs ⟨rg,ap,Vl.nil,Vl.nil⟩ args (meAt E.f ka).params <;> rfl
  rw [e];exact dq18 H F h1000 hat 0 0 n ka hka _ rfl M2.params.1 (fun t ht=>ty_kind (M2.params.2 t ht)) args aa acap hln (regs_at hro hl hln) hva g HQ HO hf
 by_cases q24:op=24
 ·subst q24;simp [Rform.body] at hb;obtain ⟨ka,rfl,hka⟩:=regl hb.1.1 hl;have e:outA RM E.f E.input E.fuel g d m (RM.step E.f E.input m ⟨24,(ka:Int),b,c,n,args⟩ ⟨rg,ap,Vl.nil,Vl.nil⟩ h)=oQ ((Run.takeIn E.input h).act fun v h=>.go ⟨Run.store rg ka v,ap+1,Vl.nil,Vl.nil⟩ h):=gEq;rw [e];exact dqG H F h1000 hat 24 b aa args.length acap c n ka hP _ (fun x h2 e=>regw hb.1.1 hl (fun e2=>rfl)) (fun W H F=>gv24 H F h1000 ka b c n hin _) rfl rfl rfl rfl rfl rfl rfl rfl
 simp [Rform.body,q1,q2,q3,q4,q5,q6,q7,q8,q9,q10,q11,q12,q13,q14,q15,q16,q17,q18,q21,q23,q24,h19,h20,h22] at hb
end
end Rhq
namespace Rhq
open Num Rd D Run Mem HierW Hpw Rhw
structure QW (E:Ev) (L0:RL) (P:Pl) (m:Me) (d:Nat) (w:World) (L:RL) (h:Hp) (s:Sv) (fr:Rf) (W:World):Prop where
 H:RH E W L h (d+1) s
 F:Fq E W L P m fr
 K:Kp (own E L0) w W
 N:∀ k,own E L k→own E L0 k∨w.heap.size≤k
 M:Blk W w.heap.size (mcells P.vp P.vc P.vh m)
 r0:W.cell? ⟨w.heap.size+1,0,none⟩=some (.int .i64 0)
 r1:W.cell? ⟨w.heap.size+1,1,none⟩=some (.int .i64 0)
 f0:W.frozen? ⟨w.heap.size+1,0,none⟩=false
 f1:W.frozen? ⟨w.heap.size+1,1,none⟩=false
 n0:W.cell? ⟨w.heap.size+1+1,0,none⟩=some (.int .i64 0)
 n1:W.cell? ⟨w.heap.size+1+1,1,none⟩=some (.int .i64 0)
 nown:∀ k,w.heap.size≤k→k≤w.heap.size+2→¬ own E L k
 base:E.B≤w.heap.size
 lo:w.heap.size+2 < P.cb∧w.heap.size+2 < P.lb
 old:∀ k,own E L0 k→E.B≤k∧k < w.heap.size
 co:Sl 6 EIns w E.B P.vc m.code
 hd:Sl 4 EHd w E.B P.vh m.handlers
section
variable {E:Ev}{w w' w1 w2 w3 W W2:World}{L L0 L2:RL}{h h' h2:Hp}{d:Nat}{s s':Sv}{P:Pl}{m:Me}{fr fr2:Rf}
theorem QW.sz (G:QW E L0 P m d w L h s fr W):w.heap.size+2 < W.heap.size:=cell_lt G.n0
theorem QW.hbne (G:QW E L0 P m d w L h s fr W):E.hb < w.heap.size∨w.heap.size+2 < E.hb:=by
 have h1:=G.nown E.hb
 by_cases q:E.hb < w.heap.size
 ·exact .inl q
 ·by_cases q2:E.hb≤w.heap.size+2
  ·exact absurd (show own E L E.hb from .inl rfl) (h1 (by omega) q2)
  ·exact .inr (by omega)
theorem QW.next (G:QW E L0 P m d w L h s fr W) (K:Kp (KX E L P) W W2) (N2:∀ k,own E L2 k→own E L k∨W.heap.size≤k) (H:RH E W2 L2 h2 (d+1) s') (F:Fq E W2 L2 P m fr2):QW E L0 P m d w L2 h2 s' fr2 W2:=by
 have hs:=G.sz;have hl:=G.lo
 have q:∀ k,w.heap.size≤k→k≤w.heap.size+2→¬ KX E L P k:=fun k h1 h2 hk=>by
  rcases hk with e | e | e
  ·exact G.nown k h1 h2 e
  ·omega
  ·omega
 have q0:=q w.heap.size (Nat.le_refl _) (by omega)
 have q1:=q (w.heap.size+1) (by omega) (by omega)
 have q2:=q (w.heap.size+1+1) (by omega) (by omega)
 refine ⟨H,F,G.K.trans K (fun y hy=>?_),fun k hk=>?_,G.M.next K q0,K.cell G.r0 q1,K.cell G.r1 q1,K.frz G.f0 (by omega) q1,K.frz G.f1 (by omega) q1,K.cell G.n0 q2,K.cell G.n1 q2,fun k h1 h2 hk=>?_,G.base,G.lo,G.old,G.co,G.hd⟩
 ·rcases hy with e | e | e
  ·exact G.N y e
  ·exact .inr (by omega)
  ·exact .inr (by omega)
 ·rcases N2 k hk with e | e
  ·exact G.N k e
  ·exact .inr (by omega)
 ·rcases N2 k hk with e | e
  ·exact G.nown k h1 h2 e
  ·omega
theorem QW.heap (G:QW E L0 P m d w L h s fr W) (K:Kp (own E L) W W2) (H:RH E W2 L h2 (d+1) s'):QW E L0 P m d w L h2 s' fr W2 :=
 G.next (K.mono (fun _ e=>.inl e)) same_own H (G.F.heap K same_own)
theorem QW.below (G:QW E L0 P m d w L h s fr W) (hb:Below W.heap.size W W2):QW E L0 P m d w L h s fr W2:=G.heap (kpB hb) (G.H.below hb)
theorem QW.frame (G:QW E L0 P m d w L h s fr W) (K:Kp (fun k=>k=P.cb∨k=P.lb) W W2) (F:Fq E W2 L P m fr2):QW E L0 P m d w L h s fr2 W2 :=
 G.next (K.mono (fun _ e=>.inr e)) same_own (frameQ G.H G.F K) F
theorem QW.setAt (G:QW E L0 P m d w L h s fr W) (a:Nat):QW E L0 P m d w L h s ⟨fr.regs,a,fr.given,fr.got⟩ (W.setCell ⟨P.cb,13,none⟩ (.int .i64 a)) :=
 G.frame ((Kp.refl _ W).setCell (p:=⟨P.cb,13,none⟩) (.inl (.inl rfl)) _) (G.F.setAt a)
theorem QW.setGot (G:QW E L0 P m d w L h s fr W) (v:Vl):QW E L0 P m d w L h s ⟨fr.regs,fr.at_,fr.given,v⟩ ((W.setCell ⟨P.cb,11,none⟩ (.int .i64 v.kind)).setCell ⟨P.cb,12,none⟩ (.int .i64 v.n)) :=
 G.frame (((Kp.refl _ W).setCell (p:=⟨P.cb,11,none⟩) (.inl (.inl rfl)) _).setCell (p:=⟨P.cb,12,none⟩) (.inl (.inl rfl)) _) (G.F.setGot v)
theorem QW.setGiven (G:QW E L0 P m d w L h s fr W) (v:Vl):QW E L0 P m d w L h s ⟨fr.regs,fr.at_,v,fr.got⟩ ((W.setCell ⟨P.cb,9,none⟩ (.int .i64 v.kind)).setCell ⟨P.cb,10,none⟩ (.int .i64 v.n)) :=
 G.frame (((Kp.refl _ W).setCell (p:=⟨P.cb,9,none⟩) (.inl (.inl rfl)) _).setCell (p:=⟨P.cb,10,none⟩) (.inl (.inl rfl)) _) (G.F.setGiven v)
theorem QW.clear (G:QW E L0 P m d w L h s fr W):QW E L0 P m d w L h s ⟨fr.regs,fr.at_,Vl.nil,Vl.nil⟩ ((((W.setCell ⟨P.cb,9,none⟩ (.int .i64 0)).setCell ⟨P.cb,10,none⟩ (.int .i64 0)).setCell ⟨P.cb,11,none⟩ (.int .i64 0)).setCell ⟨P.cb,12,none⟩ (.int .i64 0)) :=
 (G.setGiven Vl.nil).setGot Vl.nil
theorem QW.box (G:QW E L0 P m d w L h s fr W){k:Nat}(hk:w.heap.size+2 < k) (hn:¬ KX E L P k) (j:Nat) (v:Value):QW E L0 P m d w L h s fr (W.setCell ⟨k,j,none⟩ v):=by
 have K:Kp (fun x=>x=k) W (W.setCell ⟨k,j,none⟩ v):=(Kp.refl (fun x=>x=k) W).setCell (p:=⟨k,j,none⟩) (.inl rfl) v;have F:=G.F;have q1:¬ (P.cb=k):=fun e=>hn (.inr (.inl e.symm));have q2:¬ (P.lb=k):=fun e=>hn (.inr (.inr e.symm));have c0:¬ (w.heap.size=k):=by omega
 have c1:¬ (w.heap.size+1=k):=by omega
 have c2:¬ (w.heap.size+1+1=k):=by omega
 have hs:=G.sz;exact ⟨G.H.res (by have:=G.base;omega) (fun e=>hn (.inl e)) j v,⟨F.blk.next K q1,F.loc.next K q2,Nat.lt_of_lt_of_le F.lbw K.size,F.lo,F.far,F.ne⟩,G.K.setCell (p:=⟨k,j,none⟩) (.inr (by show w.heap.size≤k;omega)) v,G.N,G.M.next K c0,K.cell G.r0 c1,K.cell G.r1 c1,K.frz G.f0 (by omega) c1,K.frz G.f1 (by omega) c1,K.cell G.n0 c2,K.cell G.n1 c2,G.nown,G.base,G.lo,G.old,G.co,G.hd⟩
theorem QW.fresh (G:QW E L0 P m d w L h s fr W){k:Nat}(hk:W.heap.size≤k):¬ KX E L P k:=fun e=>by
 rcases e with e | e | e
 ·have:=(own_lo G.H.rows e).2;omega
 ·have:=G.F.cbw;omega
 ·have:=G.F.lbw;omega
theorem QW.fin (G:QW E L0 P m d w L h s fr W){r:Res Vl}{x y:Int}(hs:match r with
  | .ok a h'=>s=Sv.run∧h'=h∧x=a.kind∧y=a.n
  | .thrown o h'=>s=Sv.thr o∧h'=h∧x=0∧y=0
  | .stop c h'=>s=Sv.ends c∧h'=h):RRq E L0 d w r (.returned (.agg #[.int .i64 x,.int .i64 y])) (((W.setCell ⟨E.hb,4,none⟩ (.int .i64 d)).setCell ⟨w.heap.size+1,0,none⟩ (.int .i64 x)).setCell ⟨w.heap.size+1,1,none⟩ (.int .i64 y)):=by
 have H3:=RH.set G.H 4 (by decide) (.int .i64 d) (h':=h) (d':=d) (s':=s) rfl rfl (by simp [cellsR])
 have K3:Kp (own E L0) w (W.setCell ⟨E.hb,4,none⟩ (.int .i64 d)):=G.K.setCell (p:=⟨E.hb,4,none⟩) (.inl (.inl rfl)) _;have R2:RL2 E L0 d w (((W.setCell ⟨E.hb,4,none⟩ (.int .i64 d)).setCell ⟨w.heap.size+1,0,none⟩ (.int .i64 x)).setCell ⟨w.heap.size+1,1,none⟩ (.int .i64 y)) h s:=⟨L,kres2 K3 (by omega) _ _,G.N,H3.res2 ⟨by have:=G.base;omega,G.nown _ (by omega) (by omega)⟩ _ _⟩
 refine ⟨⟨x,y,rfl,?_⟩,fun o h' e=>?_⟩
 ·cases r with
  | ok a h'=>obtain ⟨rfl,rfl,rfl,rfl⟩:=hs;exact ⟨⟨rfl,rfl⟩,R2⟩
  | thrown o h'=>obtain ⟨rfl,rfl,_,_⟩:=hs;exact R2
  | stop c h'=>obtain ⟨rfl,rfl⟩:=hs;exact R2
 ·subst e;obtain ⟨_,_,rfl,rfl⟩:=hs
  rfl
theorem rrq_below {r:Res Vl}{e:Ending}(R:RRq E L d w r e w1) (hb:Below w1.heap.size w1 w2):RRq E L d w r e w2:=⟨rrv_below R.1 hb,R.2⟩
theorem fqNew (m:Me) (w2:World) (lb n:Nat) (loc:List Vl) (hB:Blk w2 lb (vcells loc)) (hn:loc.length=n) (hlb:lb < w2.heap.size) (vp vc vh:Value) (Z:Nat→Prop) (hlo:E.B≤lb) (hfar:∀ k,own E L k→k < lb) (T:TypeId) :
  Fq E (w2.alloc (.cells #[vp,.int .i64 m.ret.kind,.int .i64 m.ret.cls,.int .i64 m.stack,.int .i64 m.locals,.int .i64 m.regs,vc,vh,.slice (some ⟨lb,0,none⟩) n n,.int .i64 0,.int .i64 0,.int .i64 0,.int .i64 0,.int .i64 0] T)) L ⟨w2.heap.size,lb,vp,vc,vh,Z⟩ m ⟨loc,0,Vl.nil,Vl.nil⟩:=by
 subst hn;refine ⟨Blk.made w2 (qcells ⟨w2.heap.size,lb,vp,vc,vh,Z⟩ m ⟨loc,0,Vl.nil,Vl.nil⟩) T,hB.alloc _,by simp;omega,⟨by show E.B≤w2.heap.size;omega,hlo⟩,⟨fun hk=>by have:=hfar _ hk;simp only at this;omega,fun hk=>by have:=hfar _ hk;simp only at this;omega⟩,by show w2.heap.size≠lb;omega⟩
set_option maxRecDepth 100000 in
theorem runFq (S:FiR E.f) (H:RH E w L h d Sv.run) (m:Me){mv va:Value}(hmv:VMe w E.B mv m) (args:List Vl) (X:Nat→Prop) (ha:VS w X va args) (hX:∀ k,own E L k→X k) (hl:args.length=m.params.length) (hv:∀ v∈args,v.kind=3→v.n < h.objs.length) (hd:d≤20) (c:Int) (hc:(allOf E.f.classes h args m.params=false∧c=6)∨(allOf E.f.classes h args m.params=true∧20≤d∧c=5)) :
  Calls Try.prog 60 #[.pointer (some ⟨E.hb,0,none⟩),mv,va] w (RRq E L d w (.stop c h)):=by
 have HH:=Lib.hid H;have hhb:=H.rows.base.2;obtain ⟨vp,vc,vh,rfl,o1,hp,hco,hha⟩:=hmv;obtain ⟨pa,pcap,rfl,p1,p2,_⟩:=id hp;obtain ⟨ia,icap,rfl,p3,p4,_⟩:=id hco;obtain ⟨xa,xcap,rfl,p5,p6,_⟩:=id hha;have HP:=Lib.hid hp;have HA:=Lib.hid ha;have HC:=Lib.hid hc;have HL:=Lib.hid hl;have HV:=Lib.hid hv;have hxx:=Lib.hid (hX _ (.inl rfl));have hEB:E.B≤w.heap.size:=by have:=H.rows.base;omega
 clear H hp hco hha ha hc hl hv hX
 go_enter Try.func60,Try.ntmps60
 go_wp2_with fail
 generalize hWW:World.alloc _ _=W
 replace hWW:=Lib.hid hWW;have HB:=Lib.hid (show Below w.heap.size w W from by rw [← hWW.out];exact Rd.byB)
 have M:Blk W w.heap.size [.slice pa m.params.length pcap,.int .i64 m.ret.kind,.int .i64 m.ret.cls,.int .i64 m.stack,.int .i64 m.locals,.int .i64 m.regs,.slice ia m.code.length icap,.slice xa m.handlers.length xcap]:=by
  rw [← hWW.out];exact ((Blk.made w [.slice pa m.params.length pcap,.int .i64 m.ret.kind,.int .i64 m.ret.cls,.int .i64 m.stack,.int .i64 m.locals,.int .i64 m.regs,.slice ia m.code.length icap,.slice xa m.handlers.length xcap] _).alloc _).alloc _
 have r0:W.cell? ⟨w.heap.size+1,0,none⟩=some (.int .i64 0):=by rw [← hWW.out];go_simp
 have r1:W.cell? ⟨w.heap.size+1,1,none⟩=some (.int .i64 0):=by rw [← hWW.out];go_simp
 have f0:W.frozen? ⟨w.heap.size+1,0,none⟩=false:=by rw [← hWW.out];go_simp
 have f1:W.frozen? ⟨w.heap.size+1,1,none⟩=false:=by rw [← hWW.out];go_simp
 have n0:W.cell? ⟨w.heap.size+1+1,0,none⟩=some (.int .i64 0):=by rw [← hWW.out];go_simp
 have n1:W.cell? ⟨w.heap.size+1+1,1,none⟩=some (.int .i64 0):=by rw [← hWW.out];go_simp
 clear hWW;have m0:=(M 0 (by simp)).1
 have m1:=(M 1 (by simp)).1
 have m2:=(M 2 (by simp)).1
 have m3:=(M 3 (by simp)).1
 have m4:=(M 4 (by simp)).1
 have m5:=(M 5 (by simp)).1
 have m6:=(M 6 (by simp)).1
 have m7:=(M 7 (by simp)).1
 simp only [List.getElem_cons_zero,List.getElem_cons_succ] at m0 m1 m2 m3 m4 m5 m6 m7;have hsz:w.heap.size+1+1 < W.heap.size:=cell_lt n0;have nown:∀ k,w.heap.size≤k→¬ own E L k:=fun k hk e=>(fresh_b HH.out hk).2 e;refine Drawn.hd (fun w'=>w'.cell? ⟨w.heap.size,0,none⟩=some (.slice pa m.params.length pcap)∧w'.cell? ⟨w.heap.size,1,none⟩=some (.int .i64 m.ret.kind)∧w'.cell? ⟨w.heap.size,2,none⟩=some (.int .i64 m.ret.cls)∧w'.cell? ⟨w.heap.size,3,none⟩=some (.int .i64 m.stack)∧w'.cell? ⟨w.heap.size,4,none⟩=some (.int .i64 m.locals)∧w'.cell? ⟨w.heap.size,5,none⟩=some (.int .i64 m.regs)∧w'.cell? ⟨w.heap.size,6,none⟩=some (.slice ia m.code.length icap)∧w'.cell? ⟨w.heap.size,7,none⟩=some (.slice xa m.handlers.length xcap)) (h:=fun hHeld=>?_);refine dT 0 17 ?_;refine dT 1 18 ?_;refine dT 2 19 ?_;refine dT 3 20 ?_;refine dT 4 21 ?_;refine Drawn.cl 5 (fun K hK=>?_);go_simp;have HB2:=Lib.hid (show Below w.heap.size w W.drew from HB.out.trans (by exact Rd.byB))
 refine (enterF (HH.out.below HB2.out) S.may m (HP.out.mono mTy ((kpB (X:=fun _=>False) (w0:=w) HB2.out).below hEB (fun _ e=>e.elim)) (Nat.le_refl _)) args X (HA.out.next (kpB (X:=fun _=>False) (w0:=w) HB2.out) (fun _ _ e=>e.elim) (fun _ _ e=>e)) hxx.out HL.out HV.out hd c HC.out).mono ?_;rintro e w1 ⟨rfl,H1,K1⟩;have r0':=K1.cell (c:=w.heap.size+1) (o:=0) (v:=.int .i64 0) (by go_simp) (nown _ (by omega))
 have r1':=K1.cell (c:=w.heap.size+1) (o:=1) (v:=.int .i64 0) (by go_simp) (nown _ (by omega))
 have f0':=K1.frz (c:=w.heap.size+1) (o:=0) (b:=false) (by go_simp) (by first | omega | (simp;omega)) (nown _ (by omega))
 have f1':=K1.frz (c:=w.heap.size+1) (o:=1) (b:=false) (by go_simp) (by first | omega | (simp;omega)) (nown _ (by omega))
 have n0':=K1.cell (c:=w.heap.size+1+1) (o:=0) (v:=.int .i64 0) (by go_simp) (nown _ (by omega))
 have n1':=K1.cell (c:=w.heap.size+1+1) (o:=1) (v:=.int .i64 0) (by go_simp) (nown _ (by omega))
 have o0:=K1.cell m0 (nown _ (Nat.le_refl _));have o1':=K1.cell m1 (nown _ (Nat.le_refl _));have o2:=K1.cell m2 (nown _ (Nat.le_refl _));have o3:=K1.cell m3 (nown _ (Nat.le_refl _));have o4:=K1.cell m4 (nown _ (Nat.le_refl _));have o5:=K1.cell m5 (nown _ (Nat.le_refl _));have o6:=K1.cell m6 (nown _ (Nat.le_refl _));have o7:=K1.cell m7 (nown _ (Nat.le_refl _));replace H1:=Lib.hid H1;replace K1:=Lib.hid K1;clear M nown
 go_wp2_with fail
 refine Drawn.bk hK (hS:=by (try dsimp only);exact ⟨o0,o1',o2,o3,o4,o5,o6,o7⟩) (h:=fun hHeld=>?_)
 clear hK K;refine dT 6 23 ?_;refine dN ?_
 go_wp2_with fail
 refine bodyPost_ret (v:=.agg #[.int .i64 0,.int .i64 0]) (by simp [results,Try.results60,go_sem] <;> go_simp) rfl ?_
 refine ⟨⟨0,0,rfl,L,kres2 ((kpB HB2.out).trans K1.out (fun _ h=>.inl h)) (by omega) _ _,same_own,H1.out.res2 (fresh_b HH.out (by omega)) _ _⟩,fun o h' e=>by cases e⟩
end
end Rhq
namespace Run
end Run
namespace Run
open D Num
section
variable {f:Fi}{input:List Int}{fuel g d:Nat}{m:Me}{i:Ins}{fr:Sf}{h:Hp}
end
end Run
namespace Run
open D Num
def Fm (f:Fi) (input:List Int) (fuel:Nat) (h0 h:Hp):Prop:=HpOk f.classes input fuel h∧h0.objs.length≤h.objs.length∧h0.steps≤h.steps
theorem Fm.trans {f:Fi}{input:List Int}{fuel:Nat}{a b c:Hp}(h:Fm f input fuel a b) (k:Fm f input fuel b c):Fm f input fuel a c:=⟨k.1,Nat.le_trans h.2.1 k.2.1,Nat.le_trans h.2.2 k.2.2⟩
theorem Fm.of_from {f:Fi}{input:List Int}{fuel:Nat}{a b:Hp}(h:From f.classes input fuel a b):Fm f input fuel a b:=⟨h.1,h.2.1,by rw [h.2.2];exact Nat.le_refl _⟩
def OutOk {Fr:Type}(FrOk:Me→Nat→Fr→Prop) (f:Fi) (input:List Int) (fuel:Nat) (m:Me) (h0:Hp):Out Fr→Prop
 | .go fr h=>Fm f input fuel h0 h∧FrOk m h.objs.length fr
 | .back v h=>Fm f input fuel h0 h∧RetOk m h.objs.length v
 | .thrown o h=>Fm f input fuel h0 h∧o < h.objs.length
 | .stop _ h=>Fm f input fuel h0 h
theorem outA_ok {Fr:Type}{M:Mach Fr}{FrOk:Me→Nat→Fr→Prop}{f:Fi}{input:List Int}{fuel g d:Nat}{m:Me}{h0:Hp}(K:MachOk M FrOk f input fuel) (hm:m∈f.methods){a:Act Fr}(ha:ActOk FrOk f input fuel m h0 a):OutOk FrOk f input fuel m h0 (outA M f input fuel g d m a):=by
 cases a with
 | go fr h=>exact ⟨.of_from ha.1,ha.2⟩
 | back v h=>exact ⟨.of_from ha.1,ha.2⟩
 | thrown o h=>exact ⟨.of_from ha.1,ha.2⟩
 | stop e h=>exact Fm.of_from ha
 | call k args fr h =>
  obtain ⟨F,hfr,hv,hal,hk⟩:=ha;have hc:=call_ok K g d (meAt f k) args h (meAt_mem hk) F.1 hv hal;simp only [outA]
  revert hc
  generalize call M f input fuel g d (meAt f k) args h=r
  intro hc
  cases r with
  | stop e h2=>exact (Fm.of_from F).trans hc
  | thrown o h2=>exact ⟨(Fm.of_from F).trans hc.1,hc.2⟩
  | ok v h2 =>
   simp only [outC]
   cases hr:M.resume m (meAt f k) fr v with
   | none=>exact (Fm.of_from F).trans hc.1
   | some fr2=>exact ⟨(Fm.of_from F).trans hc.1,K.resume m hm _ _ _ _ _ (K.mono _ _ _ _ hc.1.2.1 hfr) hc.2 hr⟩
end Run
namespace Run
open D Num
theorem outS_ok {f:Fi}{input:List Int}{fuel g d:Nat}{m:Me}{fr:Rf}{h:Hp}(K:MachOk RM RfOk f input fuel) (hm:m∈f.methods) (HO:HpOk f.classes input fuel h) (hf:RfOk m h.objs.length fr) :
  (∃ c h',outS RM f input fuel g d m fr h=.stop c h')∨(h.steps < fuel∧OutOk RfOk f input fuel m { h with steps:=h.steps+1 } (outS RM f input fuel g d m fr h)):=by
 unfold outS
 by_cases q:fuel≤h.steps
 ·rw [if_pos q];exact .inl ⟨_,_,rfl⟩
 ·rw [if_neg q]
  cases hi:m.code[RM.at_ fr]? with
  | none=>exact .inl ⟨_,_,rfl⟩
  | some i =>
   have HO1:HpOk f.classes input fuel { h with steps:=h.steps+1 }:=⟨HO.many,HO.obs,HO.out,Nat.le_succ_of_le HO.outs,HO.used,by show h.steps+1≤fuel;omega⟩
   have hs:=K.step m hm i (List.mem_of_getElem? hi) fr _ HO1 (by show h.out.length < h.steps+1;have:=HO.outs;omega) hf
   exact .inr ⟨by omega,outA_ok K hm hs⟩
end Run
end Go.Proofs.Ytncmhenfgbcihab
