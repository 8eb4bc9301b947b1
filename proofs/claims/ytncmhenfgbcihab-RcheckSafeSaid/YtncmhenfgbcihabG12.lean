/- Parts of the proof: Zf. -/
import Derived.Test.YtncmhenfgbcihabG11
import Derived.RegionTactic
set_option linter.unusedSimpArgs false
set_option linter.unusedVariables false
set_option maxHeartbeats 8000000
namespace Go.Proofs.Ytncmhenfgbcihab
open Go.RowKit
namespace Rhq
open Num Rd D Run Mem HierW Hpw Rhw
section
variable {E:Ev}{w w' w1 w2 w3 W W2:World}{L L0 L2:RL}{h h' h2:Hp}{d:Nat}{s s':Sv}{P:Pl}{m:Me}{fr fr2:Rf}
theorem rstep_clr2 {f:Fi}{input:List Int}{i:Ins}(h19:i.op≠19) (h22:i.op≠22):rstep f input m i fr h=rstep f input m i ⟨fr.regs,fr.at_,Vl.nil,Vl.nil⟩ h:=by
 unfold rstep;simp only [if_neg h19,if_neg h22]
 have e:r18 f i fr h=r18 f i ⟨fr.regs,fr.at_,Vl.nil,Vl.nil⟩ h:=by
  unfold r18;rw [rargs_same (fr:=fr) (fr2:=⟨fr.regs,fr.at_,Vl.nil,Vl.nil⟩) rfl]
 rw [e]
 rfl
def GN (a:Run.Act Rf):Prop:=match a with
 | .go fr' _=>fr'.got=Vl.nil
 | _=>True
theorem name_calls {p:Program}{k:FuncId}{xs:Array Value}{Q:Ending→World→Prop}{w:World}(R:World→Prop) (hR:R w) (h:∀ W,R W→Calls p k xs W Q):Calls p k xs w Q:=h w hR
theorem gn_set {a:Int}{v:Vl}:GN (rset fr a v h):=rfl
theorem gn_go {t:Nat}:GN (rgo fr t h):=rfl
theorem gn_kind {v:Vl}{c:Int}{k:Run.Act Rf}(hk:GN k):GN (rkind v c h k):=by
 unfold rkind;split
 ·exact hk
 ·trivial
theorem gn_act {α:Type}{q:Res α}{k:α→Hp→Run.Act Rf}(hk:∀ a h,GN (k a h)):GN (q.act k):=by
 cases q with
 | ok a h=>exact hk a h
 | thrown o h=>trivial
 | stop e h=>trivial
theorem gn_18 {f:Fi}{i:Ins}:GN (r18 f i fr h):=by unfold r18;split <;> trivial
theorem gn_20 {l:List Cls}{i:Ins}:GN (r20 l m i fr h):=by
 unfold r20;split
 ·trivial
 ·refine gn_kind ?_
  split <;> trivial
theorem gn_ite {c:Prop} [Decidable c] {a b:Run.Act Rf}(ha:GN a) (hb:GN b):GN (if c then a else b):=by split <;> assumption
theorem rstep_gn {f:Fi}{input:List Int}{i:Ins}:GN (rstep f input m i fr h) :=
 gn_ite gn_set (gn_ite gn_set (gn_ite gn_set (gn_ite (gn_kind gn_set) (gn_ite (gn_act fun _ _=>gn_set) (gn_ite (gn_act fun _ _=>gn_set) (gn_ite (gn_kind gn_set) (gn_ite (gn_kind gn_set) (gn_ite (gn_kind (gn_kind gn_set)) (gn_ite gn_go (gn_ite (gn_kind gn_go) (gn_ite (gn_kind gn_go) (gn_ite (gn_act fun _ _=>gn_set) (gn_ite (gn_kind (gn_act fun _ _=>gn_set)) (gn_ite (gn_kind (gn_kind (gn_act fun _ _=>gn_go))) (gn_ite (gn_kind (gn_act fun _ _=>gn_go)) (gn_ite (gn_kind (gn_act fun _ _=>gn_set)) (gn_ite gn_18 (gn_ite (gn_kind gn_set) (gn_ite gn_20 (gn_ite (gn_kind (gn_act fun _ _=>trivial)) (gn_ite (gn_kind gn_set) (gn_ite (gn_kind (gn_act fun _ _=>gn_go)) (gn_ite (gn_act fun _ _=>gn_set) trivial)))))))))))))))))))))))
theorem egQ {f:Fi}{input:List Int}{fuel g:Nat}{i:Ins}{fr':Rf}(e:outA RM f input fuel g d m (RM.step f input m i fr h)=.go fr' h'):fr'.got=Vl.nil:=by
 have hg:=rstep_gn (f:=f) (input:=input) (i:=i) (m:=m) (fr:=fr) (h:=h)
 change outA RM f input fuel g d m (rstep f input m i fr h)=_ at e
 generalize rstep f input m i fr h=a at e hg
 cases a with
 | go fr2 h2=>cases e;exact hg
 | back v h2=>cases e
 | thrown o h2=>cases e
 | stop c h2=>cases e
 | call k args fr2 h2 =>
  simp only [outA] at e
  generalize call RM f input fuel g d (meAt f k) args h2=q at e
  cases q with
  | ok v h3=>cases e;rfl
  | thrown o h3=>cases e
  | stop c h3=>cases e
def RunA (E:Ev) (L0:RL) (P:Pl) (m:Me) (d n0:Nat) (w:World) (r:Res Vl) (wr:World):Prop :=
 ∃ L2 h2 fr g,n0≤h2.steps∧QW E L0 P m d w L2 h2 Sv.run fr wr∧HpOk E.f.classes E.input E.fuel h2∧RfOk m h2.objs.length fr∧loop RM E.f E.input E.fuel g (d+1) m fr h2=r∧E.fuel < g+h2.steps
set_option maxRecDepth 100000 in
theorem runTq (S:FiR E.f) (M:MeR E.f m) (H:RH E w L h d Sv.run){mv va:Value}(hmv:VMe w E.B mv m) (args:List Vl) (X:Nat→Prop) (ha:VS w X va args) (hX:∀ k,own E L k→X k) (hl:args.length=m.params.length) (hv:∀ v∈args,VtOk h.objs.length v) (hd:d < 20) (hc:allOf E.f.classes h args m.params=true) (hsz:size args≤m.regs.toNat) (r:Res Vl) (HO:HpOk E.f.classes E.input E.fuel h) (hm:m∈E.f.methods) (MO:MachOk RM RfOk E.f E.input E.fuel) (hfu:E.fuel≤60000) (hin:E.input.length≤1000) (g:Nat) (hg:E.fuel < g+h.steps) (hr:loop RM E.f E.input E.fuel g (d+1) m (renter m args) h=r) (HRun:∀ (h2:Hp) (g2:Nat),E.fuel < g2+h2.steps→h.steps < h2.steps→RunQ E (d+1) g2 h2) :
  Calls Try.prog 60 #[.pointer (some ⟨E.hb,0,none⟩),mv,va] w (RRq E L d w r):=by
 have HH:=Lib.hid H;have hhb:=H.rows.base.2;obtain ⟨vp,vc,vh,rfl,o1,hp,hco,hha⟩:=hmv;obtain ⟨pa,pcap,rfl,p1,p2,_⟩:=id hp;obtain ⟨ia,icap,rfl,p3,p4,_⟩:=id hco;obtain ⟨xa,xcap,rfl,p5,p6,_⟩:=id hha;have HP:=Lib.hid hp;have HA:=Lib.hid ha;have HC:=Lib.hid hc;have HL:=Lib.hid hl;have HV:=Lib.hid hv;have hxx:=Lib.hid (hX _ (.inl rfl));have hEB:E.B≤w.heap.size:=by have:=H.rows.base;omega
 have HCO:=Lib.hid hco;have HHA:=Lib.hid hha;have HSZ:=Lib.hid hsz;clear hsz;have HV3:=Lib.hid (fun v hv'=>fun e=>((hv v hv').1.2.2.2 e).2);have HX:=Lib.hid hX;have HOLD:=Lib.hid (fun k (hk:own E L k)=>own_lo H.rows hk);replace HO:=Lib.hid HO;replace hr:=Lib.hid hr;replace HRun:=Lib.hid HRun;replace hm:=Lib.hid hm;replace MO:=Lib.hid MO;clear H hp hco hha ha hc hl hv hX
 go_enter Try.func60,Try.ntmps60
 go_wp2_with fail
 generalize hWW:World.alloc _ _=W
 replace hWW:=Lib.hid hWW;have HB:=Lib.hid (show Below w.heap.size w W from by rw [← hWW.out];exact Rd.byB)
 have M':Blk W w.heap.size [.slice pa m.params.length pcap,.int .i64 m.ret.kind,.int .i64 m.ret.cls,.int .i64 m.stack,.int .i64 m.locals,.int .i64 m.regs,.slice ia m.code.length icap,.slice xa m.handlers.length xcap]:=by
  rw [← hWW.out];exact ((Blk.made w [.slice pa m.params.length pcap,.int .i64 m.ret.kind,.int .i64 m.ret.cls,.int .i64 m.stack,.int .i64 m.locals,.int .i64 m.regs,.slice ia m.code.length icap,.slice xa m.handlers.length xcap] _).alloc _).alloc _
 have r0:W.cell? ⟨w.heap.size+1,0,none⟩=some (.int .i64 0):=by rw [← hWW.out];go_simp
 have r1:W.cell? ⟨w.heap.size+1,1,none⟩=some (.int .i64 0):=by rw [← hWW.out];go_simp
 have f0:W.frozen? ⟨w.heap.size+1,0,none⟩=false:=by rw [← hWW.out];go_simp
 have f1:W.frozen? ⟨w.heap.size+1,1,none⟩=false:=by rw [← hWW.out];go_simp
 have n0:W.cell? ⟨w.heap.size+1+1,0,none⟩=some (.int .i64 0):=by rw [← hWW.out];go_simp
 have n1:W.cell? ⟨w.heap.size+1+1,1,none⟩=some (.int .i64 0):=by rw [← hWW.out];go_simp
 clear hWW;have m0:=(M' 0 (by simp)).1
 have m1:=(M' 1 (by simp)).1
 have m2:=(M' 2 (by simp)).1
 have m3:=(M' 3 (by simp)).1
 have m4:=(M' 4 (by simp)).1
 have m5:=(M' 5 (by simp)).1
 have m6:=(M' 6 (by simp)).1
 have m7:=(M' 7 (by simp)).1
 simp only [List.getElem_cons_zero,List.getElem_cons_succ] at m0 m1 m2 m3 m4 m5 m6 m7;have hsz:w.heap.size+1+1 < W.heap.size:=cell_lt n0;have nown:∀ k,w.heap.size≤k→¬ own E L k:=fun k hk e=>(fresh_b HH.out hk).2 e;refine Drawn.hd (fun w'=>w'.cell? ⟨w.heap.size,0,none⟩=some (.slice pa m.params.length pcap)∧w'.cell? ⟨w.heap.size,1,none⟩=some (.int .i64 m.ret.kind)∧w'.cell? ⟨w.heap.size,2,none⟩=some (.int .i64 m.ret.cls)∧w'.cell? ⟨w.heap.size,3,none⟩=some (.int .i64 m.stack)∧w'.cell? ⟨w.heap.size,4,none⟩=some (.int .i64 m.locals)∧w'.cell? ⟨w.heap.size,5,none⟩=some (.int .i64 m.regs)∧w'.cell? ⟨w.heap.size,6,none⟩=some (.slice ia m.code.length icap)∧w'.cell? ⟨w.heap.size,7,none⟩=some (.slice xa m.handlers.length xcap)) (h:=fun hHeld=>?_);refine dT 0 17 ?_;refine dT 1 18 ?_;refine dT 2 19 ?_;refine dT 3 20 ?_;refine dT 4 21 ?_;refine Drawn.cl 5 (fun K hK=>?_);go_simp;have HB2:=Lib.hid (show Below w.heap.size w W.drew from HB.out.trans (by exact Rd.byB))
 refine (enterT (HH.out.below HB2.out) S.may m (HP.out.mono mTy ((kpB (X:=fun _=>False) (w0:=w) HB2.out).below hEB (fun _ e=>e.elim)) (Nat.le_refl _)) args X (HA.out.next (kpB (X:=fun _=>False) (w0:=w) HB2.out) (fun _ _ e=>e.elim) (fun _ _ e=>e)) hxx.out HL.out HV3.out hd HC.out).mono ?_;rintro e w1 ⟨rfl,H1,K1⟩;have r0':=K1.cell (c:=w.heap.size+1) (o:=0) (v:=.int .i64 0) (by go_simp) (nown _ (by omega))
 have r1':=K1.cell (c:=w.heap.size+1) (o:=1) (v:=.int .i64 0) (by go_simp) (nown _ (by omega))
 have f0':=K1.frz (c:=w.heap.size+1) (o:=0) (b:=false) (by go_simp) (by first | omega | (simp;omega)) (nown _ (by omega))
 have f1':=K1.frz (c:=w.heap.size+1) (o:=1) (b:=false) (by go_simp) (by first | omega | (simp;omega)) (nown _ (by omega))
 have n0':=K1.cell (c:=w.heap.size+1+1) (o:=0) (v:=.int .i64 0) (by go_simp) (nown _ (by omega))
 have n1':=K1.cell (c:=w.heap.size+1+1) (o:=1) (v:=.int .i64 0) (by go_simp) (nown _ (by omega))
 have o0:=K1.cell m0 (nown _ (Nat.le_refl _));have o1':=K1.cell m1 (nown _ (Nat.le_refl _));have o2:=K1.cell m2 (nown _ (Nat.le_refl _));have o3:=K1.cell m3 (nown _ (Nat.le_refl _));have o4:=K1.cell m4 (nown _ (Nat.le_refl _));have o5:=K1.cell m5 (nown _ (Nat.le_refl _));have o6:=K1.cell m6 (nown _ (Nat.le_refl _));have o7:=K1.cell m7 (nown _ (Nat.le_refl _));have MM:=Lib.hid ((Blk.drew M').next K1 (nown _ (Nat.le_refl _)));have hsz1:=cell_lt n0';replace H1:=Lib.hid H1;have K1':=Lib.hid ((kpB (X:=own E L) HB2.out).trans K1 (fun _ e=>.inl e));have NOWN:=Lib.hid nown;clear K1 nown M' m0 m1 m2 m3 m4 m5 m6 m7 r0 r1 f0 f1 n0 n1
 go_wp2_with fail
 refine Drawn.bk hK (hS:=by (try dsimp only);exact ⟨o0,o1',o2,o3,o4,o5,o6,o7⟩) (h:=fun hHeld=>?_)
 clear hK K;refine dT 6 23 ?_;refine dN ?_;have hlb:=M.regs;have hml:((m.regs.toNat:Nat):Int)=m.regs:=by omega
 obtain ⟨w2,hrun,hblk,hbel,hlt2⟩:=mkVals m.regs.toNat (by omega) w1.drew
 rw [hml] at hrun;have e1:w1.drew.heap.size=w1.heap.size:=rfl;rw [e1] at hblk hlt2 hbel hrun;have hbd:Below w1.heap.size w1 w2:=Below.trans (by exact Rd.byB) hbel
 have q0:=kept hbd (cell_lt o0) o0;have q1:=kept hbd (cell_lt o0) o1';have q2:=kept hbd (cell_lt o0) o2;have q3:=kept hbd (cell_lt o0) o3;have q4:=kept hbd (cell_lt o0) o4;have q5:=kept hbd (cell_lt o0) o5;have q6:=kept hbd (cell_lt o0) o6;have q7:=kept hbd (cell_lt o0) o7;have B2:=Lib.hid hblk;have BD:=Lib.hid hbd;have hl2:=cell_lt q0;clear hblk hbel hbd
 go_wp2_with fail
 go_region
 refine name_w (fun W9=>∃ P:Pl,Hid (P.cb=w2.heap.size)∧Hid (P.lb=w1.heap.size)∧Hid (QW E L P m d w L h Sv.run ⟨List.replicate m.regs.toNat Vl.nil,0,Vl.nil,Vl.nil⟩ W9)∧Hid (VS W9 (fun k=>X k∨w.heap.size≤k) va args)∧Hid (P.vp=.slice pa m.params.length pcap∧P.vc=.slice ia m.code.length icap∧P.vh=.slice xa m.handlers.length xcap)) ?_ ?_
 ·have hbA:Below w2.heap.size w2 (w2.alloc (.cells #[.slice pa m.params.length pcap,.int .i64 m.ret.kind,.int .i64 m.ret.cls,.int .i64 m.stack,.int .i64 m.locals,.int .i64 m.regs,.slice ia m.code.length icap,.slice xa m.handlers.length xcap,.slice (some ⟨w1.heap.size,0,none⟩) m.regs.toNat m.regs.toNat,.int .i64 0,.int .i64 0,.int .i64 0,.int .i64 0,.int .i64 0] 191)):=by exact Rd.byB
  have hb2:=BD.out.trans (hbA.mono BD.out.size);have KK:=kb K1'.out hb2;refine ⟨⟨w2.heap.size,w1.heap.size,.slice pa m.params.length pcap,.slice ia m.code.length icap,.slice xa m.handlers.length xcap,fun _=>False⟩,Lib.hid rfl,Lib.hid rfl,Lib.hid ?_,Lib.hid (HA.out.next KK (fun b _ hb=>HX.out _ hb) (fun b hb hx=>?_)),Lib.hid ⟨rfl,rfl,rfl⟩⟩
  ·refine ⟨H1.out.below hb2,fqNew m w2 w1.heap.size _ _ B2.out (by simp) hlt2 _ _ _ _ (by omega) (fun k hk=>by have:=(HOLD.out k hk).2;show k < w1.heap.size;omega) _,KK,fun _ e=>.inl e,MM.out.next (kpB (X:=fun _=>False) hb2) (fun e=>e),kept hb2 (cell_lt r0') r0',kept hb2 (cell_lt r0') r1',?_,?_,kept hb2 (cell_lt n0') n0',kept hb2 (cell_lt n0') n1',fun k h1 _=>NOWN.out k h1,hEB,⟨by show w.heap.size+2 < w2.heap.size;omega,by show w.heap.size+2 < w1.heap.size;omega⟩,HOLD.out,HCO.out,HHA.out⟩
   ·exact (kpB (X:=fun _=>False) hb2).frz f0' (cell_lt r0') (fun e=>e)
   ·exact (kpB (X:=fun _=>False) hb2).frz f1' (cell_lt r0') (fun e=>e)
  ·rcases hx with hx | hx
   ·exact hx
   ·omega
 clear q0 q1 q2 q3 q4 q5 q6 q7 o0 o1' o2 o3 o4 o5 o6 o7 r0' r1' f0' f1' n0' n1' hrun B2 BD MM H1 K1' hl2 hlt2 e1;rintro W9 ⟨P,hPc,hPl,G9,VW,hPv⟩;rw [← hPc.out,← hPl.out];clear hPc hPl hsz1;have hst:=Lib.hid (fun n (hn:n≤args.length)=>(stores_ok (n:=h.objs.length) (args.take n) (List.replicate m.regs.toNat Vl.nil) 0 (fresh_ok _ _) (fun v hv=>HV.out v (List.mem_of_mem_take hv)) (by have:=size_take_le (args:=args) n;have:=HSZ.out;simp;omega)))
 have hlo9:=G9.out.lo
 go_wp2_with fail
 go_loopw [9,10] (fun a i wr=>∃ n:Nat,i=.int .i64 n∧a=.int .i64 (size (args.take n):Nat)∧n≤args.length∧Hid (Kp (· = P.lb) W9 wr)∧Hid (QW E L P m d w L h Sv.run ⟨stores (List.replicate m.regs.toNat Vl.nil) 0 (args.take n),0,Vl.nil,Vl.nil⟩ wr)) (fun _ i _=>args.length - (intOf i).toNat)
 case atStart=>exact ⟨0,rfl,by simp [size],Nat.zero_le _,Lib.hid (Kp.refl _ _),by simpa [stores] using G9⟩
 case round =>
  obtain ⟨n,rfl,rfl,hn,KL,GL⟩:=hrel
  by_cases hlt:n < args.length
  ·obtain ⟨ab,ao,acap,rfl,hc1,hc2,hab,hnx,hel⟩:=VW.out.form (by omega)
   have hn1:(n:Int) < args.length:=by omega
   obtain ⟨z0,z1⟩:=hel n hlt;have hane:ab≠P.lb:=fun e=>hnx (.inr (by rw [e];omega))
   have y0:=KL.out.cell z0 (fun e=>hane e);have y1:=KL.out.cell z1 (fun e=>hane e);have habr:ab < wr.heap.size:=Nat.lt_of_lt_of_le hab KL.out.size;have VR:=Lib.hid (VW.out.next (X':=fun k=>k=P.lb) KL.out (fun b _ e=>.inr (by rw [e];omega)) (fun b _ e=>.inr (by rw [e];omega)))
   obtain ⟨v,hv⟩:=at_of hlt;rw [hv.out] at y0 y1;have hv':=Lib.hid hv;have c8:=GL.out.F.c8;have ln:(stores (List.replicate m.regs.toNat Vl.nil) 0 (args.take n)).length=m.regs.toNat:=by rw [(hst.out n hn).2];simp
   simp only [ln] at c8;have hcb:=GL.out.F.cbw;have hlb:=GL.out.F.lbw;have LN:=Lib.hid ln;have FB:=Lib.hid GL.out.F.loc;clear hel z0 z1 ln
   go_wp2_with fail
   go_still_tail 9,(by kernel_rfl)
   have hfit:size (args.take n)+width v≤m.regs.toNat:=by
    have h1:=size_take hlt;have h2:=size_take_le (args:=args) (n+1);have h3:=HSZ.out;rw [hv'.out] at h1;omega
   have HF:=Lib.hid hfit;have hml2:m.regs.toNat≤1000:=by omega
   go_wp2_with (first | (go_at_call 101;refine (storeAt (l:=stores (List.replicate m.regs.toNat Vl.nil) 0 (args.take n)) _ LN.out.symm (FB.out.drew) hlb (hst.out n hn).1.pair _ v (by rw [LN.out];exact HF.out) (by rw [LN.out];exact hml2)).mono ?_;rintro e w3 ⟨rfl,B3,K3⟩;replace B3:=Lib.hid B3;replace K3:=Lib.hid K3) | (go_at_call 102;refine (sizeR (l:=[v]) (X:=fun k=>k=P.lb) (by have V:=VS.mid VR.out hlt;rw [hv'.out] at V;exact V.next ((Kp.refl (fun k=>k=P.lb) wr).drew.trans K3.out (fun _ h=>.inl h)) (fun _ _ h=>h) (fun _ _ h=>h)) (by simp)).mono ?_;rintro e w4 ⟨rfl,rfl⟩))
   refine ⟨⟨n+1,by simp,?_,hlt,?_,?_⟩,by simp only [intOf];omega⟩
   ·have h1:=size_take hlt;rw [hv'.out] at h1
    have h2:wrap64 ((size (args.take n):Int)+(size [v]:Nat))=((size (args.take n)+size [v]:Nat):Int):=by
     have h3:size [v]=width v:=by simp [size]
     have:=HF.out
     rw [← Int.natCast_add];exact wrap64_id (by unfold Ok;rw [h3];omega)
    rw [h2,h1];simp [size]
   ·exact Lib.hid (KL.out.trans ((Kp.refl (fun k=>k=P.lb) wr).drew.trans K3.out (fun _ h=>.inl h)) (fun _ h=>.inl h))
   ·have e3:stores (List.replicate m.regs.toNat Vl.nil) 0 (args.take (n+1))=Run.store (stores (List.replicate m.regs.toNat Vl.nil) 0 (args.take n)) (size (args.take n)) v:=by rw [stores_take hlt,hv'.out]
    rw [e3];have KK3:Kp (fun k=>k=P.lb) wr w3:=(Kp.refl (fun k=>k=P.lb) wr).drew.trans K3.out (fun _ h=>.inl h);exact Lib.hid (GL.out.frame (KK3.mono (fun _ e=>.inr e)) (GL.out.F.store (store_len _ _ _) B3.out KK3))
  ·have hn1:¬ (n:Int) < args.length:=by omega
   obtain rfl:n=args.length:=by omega
   rw [List.take_length] at GL;obtain ⟨ax,acap,rfl,hc1,hc2⟩:=VW.out.len;have hA:Hid (RunA E L P m d h.steps w r wr):=Lib.hid ⟨L,h,renter m args,g,Nat.le_refl _,GL.out,HO.out,MO.out.enter m hm.out _ args HV.out HL.out (fun i hi=>allOf_kind args _ HC.out i hi (by rw [← HL.out];exact hi)),hr.out,hg⟩
   obtain ⟨hPv1,hPv2,hPv3⟩:=hPv.out;replace hPv1:=Lib.hid hPv1;replace hPv2:=Lib.hid hPv2;replace hPv3:=Lib.hid hPv3;clear hst KL GL G9 VW HO hr hg hPv hlo9
   go_wp2_with fail
   go_loopw [15] (fun _ w5=>RunA E L P m d h.steps w r w5) (fun _ w5=>E.fuel - stepsOf E w5)
   case atStart=>exact hA.out
   case round =>
    clear hA;obtain ⟨L2,h2,fr,g2,hn5,G5,HO5,SO5,hr5,hg5⟩:=hrel;replace G5:=Lib.hid G5;replace HO5:=Lib.hid HO5;replace SO5:=Lib.hid SO5;replace hr5:=Lib.hid hr5;have hhb5:=G5.out.H.rows.base.2
    by_cases q1:E.fuel≤h2.steps
    ·as_aux_lemma =>
      have hr0:Hid (r=.stop 0 h2):=by
       show r=_
       rw [← hr5.out]
       cases g2 with
       | zero=>rfl
       | succ g2=>rw [loop,if_pos q1]
      clear hr5
      go_wp2_with fail
      refine (stepFuel G5.out.H q1).mono ?_;rintro e w6 ⟨rfl,H6,K6⟩;have G6:=Lib.hid (G5.out.heap K6 H6);have c12:=G6.out.H.c12;simp only [Sv.ends] at c12;clear H6 K6;obtain ⟨_,_,_,_,_,r0,r1,f0,f1,n0,n1,_,_,_,_,_,_⟩:=id G6.out;have c4:=G6.out.H.c4;have f4:=G6.out.H.fz 4 (by decide)
      have hhz:=G6.out.H.rows.base.2;have szz:=G6.out.sz;have nz1:w.heap.size+1≠E.hb:=by rcases G6.out.hbne with q | q <;> omega
      have nz2:w.heap.size+1+1≠E.hb:=by rcases G6.out.hbne with q | q <;> omega
      have nz3:=nz1.symm;have nz4:=nz2.symm;have szy:w.heap.size+1 < w6.heap.size:=by omega
      go_wp2_with fail
      refine bodyPost_ret (v:=.agg #[.int .i64 0,.int .i64 0]) (by simp [results,Try.results60,go_sem] <;> go_simp) rfl ?_
      exact G6.out.fin (by rw [hr0.out];exact ⟨rfl,rfl⟩)
    obtain ⟨g3,rfl⟩:∃ g3,g2=g3+1:=⟨g2 - 1,by omega⟩
    have q1':h2.steps < E.fuel:=by omega
    have hout:=Lib.hid (loop_out rm_same E.f E.input E.fuel g3 (d+1) m fr h2);rw [hr5.out] at hout;have hstp:=Lib.hid (steps_of G5.out.H);have HOK:=Lib.hid (outS_ok (g:=g3) (d:=d+1) MO.out hm.out HO5.out SO5.out);have hat4:=M.code.2
    go_wp2_with fail
    refine (stepOk G5.out.H q1' hfu).mono ?_;rintro e w6 ⟨rfl,H6,K6⟩;have G6:=Lib.hid (G5.out.heap K6 H6);clear H6 K6;have c13:=G6.out.F.c13;have cbw6:=G6.out.F.cbw;have hb6:=G6.out.H.rows.base.2;have sz6:=G6.out.sz;have szw6:w.heap.size < w6.heap.size:=by omega
    have MBX:=G6.out.M;rw [hPv1.out,hPv2.out,hPv3.out] at MBX;have m6:w6.cell? ⟨w.heap.size,6,none⟩=some (.slice (ia) m.code.length icap):=(MBX 6 (by simp [mcells])).1
    clear MBX;obtain ⟨ci,hci⟩:∃ ci,Hid (m.code[fr.at_]? = ci):=⟨_,Lib.hid rfl⟩
    go_wp2_with fail
    refine Drawn.hd (fun w'=>w'.cell? ⟨P.cb,13,none⟩=some (.int .i64 fr.at_)∧w'.cell? ⟨w.heap.size,6,none⟩=some (.slice ia m.code.length icap)) (h:=fun hHeld=>?_);refine dT 0 59 ?_;refine dT 1 60 ?_;refine dT 2 61 ?_;refine dT 3 62 ?_;refine dT 4 63 ?_;refine dT 5 64 ?_;refine dT 6 65 ?_;refine dT 7 66 ?_;refine dT 8 67 ?_;refine dT 9 68 ?_;refine dT 10 69 ?_
    cases ci with
    | none =>
     as_aux_lemma =>
      have hge2:m.code.length≤fr.at_:=List.getElem?_eq_none_iff.1 hci.out;have hge3:¬ (fr.at_:Int) < m.code.length:=by omega
      have hge4:¬ fr.at_ < m.code.length:=by omega
      have hatd:decide ((fr.at_:Int) < m.code.length)=false:=by simpa using hge2
      have hr0:Hid (r=.stop 6 (stepped h2)):=by
       show r=_
       rw [hout.out]
       have e:outS RM E.f E.input E.fuel g3 (d+1) m fr h2=.stop 6 (stepped h2):=by
        unfold outS;rw [if_neg q1,show m.code[RM.at_ fr]? = none from hci.out]
        rfl
       rw [e]
      have H6d:=Lib.hid (G6.out.H.below (w':=w6.drew) (by exact Rd.byB))
      obtain ⟨A1,A2⟩:=ended H6d.out rfl 6 (Below.refl _ _);refine Drawn.cl 11 (fun K hK=>?_);go_simp;refine (mustF H6d.out rfl).mono ?_;rintro e w7 ⟨rfl,hw7⟩;rw [hw7] at A1 A2;have G7:=Lib.hid ((G6.out.below (W2:=w6.drew) (by exact Rd.byB)).heap A2 A1)
      have c13':=G7.out.F.c13;have c12:=G7.out.H.c12;simp only [Sv.ends] at c12;have MBX:=G7.out.M;rw [hPv1.out,hPv2.out,hPv3.out] at MBX;have k6:w7.cell? ⟨w.heap.size,6,none⟩=some (.slice (ia) m.code.length icap):=(MBX 6 (by simp [mcells])).1
      clear MBX;clear hw7 A1 A2;obtain ⟨_,_,_,_,_,r0,r1,f0,f1,n0,n1,_,_,_,_,_,_⟩:=id G7.out;have c4:=G7.out.H.c4;have f4:=G7.out.H.fz 4 (by decide)
      have hhz:=G7.out.H.rows.base.2;have szz:=G7.out.sz;have nz1:w.heap.size+1≠E.hb:=by rcases G7.out.hbne with q | q <;> omega
      have nz2:w.heap.size+1+1≠E.hb:=by rcases G7.out.hbne with q | q <;> omega
      have nz3:=nz1.symm;have nz4:=nz2.symm;have szy:w.heap.size+1 < w7.heap.size:=by omega
      go_wp2_with fail
      refine Drawn.bk hK (hS:=by (try dsimp only);exact ⟨c13',k6⟩) (h:=fun hHeld=>?_)
      clear hK K;refine dT 12 71 ?_;refine dN ?_
      go_wp2_with fail
      refine bodyPost_ret (v:=.agg #[.int .i64 0,.int .i64 0]) (by simp [results,Try.results60,go_sem] <;> go_simp) rfl ?_
      exact G7.out.fin (by rw [hr0.out];exact ⟨rfl,rfl⟩)
    | some i =>
     have hlt:fr.at_ < m.code.length:=(List.getElem?_eq_some_iff.1 hci.out).1;have hlt1:(fr.at_:Int) < m.code.length:=by omega
     have hatd:decide ((fr.at_:Int) < m.code.length)=true:=by simpa using hlt1
     refine Drawn.cl 11 (fun K hK=>?_);go_simp;refine (mustT (G6.out.H.below (w':=w6.drew) (by exact Rd.byB)) rfl).mono ?_
     rintro e w7 ⟨rfl,rfl⟩
     go_wp2_with fail
     refine Drawn.bk hK (h:=fun hHeld=>?_);clear hK K;refine dT 12 71 ?_;refine dN ?_;have G7:=Lib.hid (G6.out.below (W2:=w6.drew) (by exact Rd.byB))
     clear G6 c13 m6 hb6 cbw6 sz6 szw6
     generalize w6.drew=w7 at G7 ⊢
     obtain ⟨ia',icap',hs,_,_,hel⟩:=HCO.out;simp only [Value.slice.injEq,true_and] at hs;obtain ⟨rfl,rfl⟩:=hs;obtain ⟨ib,io,rfl,hib,j0,j1,j2,j3,j4,iok,va5,j5,hsl⟩:=hel fr.at_ hlt;obtain ⟨ax5,acap5,rfl,_⟩:=id hsl;have ei:m.code[fr.at_]=i:=(List.getElem?_eq_some_iff.1 hci.out).2;rw [ei] at j0 j1 j2 j3 j4 j5 hsl;have hmem:i∈m.code:=List.mem_of_getElem? hci.out;have nib:¬ own E L ib:=fun hk=>by have:=(HOLD.out _ hk).1;omega
     replace j0:=G7.out.K.cell j0 nib;replace j1:=G7.out.K.cell j1 nib;replace j2:=G7.out.K.cell j2 nib;replace j3:=G7.out.K.cell j3 nib;replace j4:=G7.out.K.cell j4 nib;replace j5:=G7.out.K.cell j5 nib;have c13:=G7.out.F.c13;have cbw:=G7.out.F.cbw;have MBX:=G7.out.M;rw [hPv1.out,hPv2.out,hPv3.out] at MBX;have m6:w7.cell? ⟨w.heap.size,6,none⟩=some (.slice (some ⟨ib,io,none⟩) m.code.length icap):=(MBX 6 (by simp [mcells])).1
     clear MBX;have l1:w.heap.size < w7.heap.size:=by have:=G7.out.sz;omega
     have l2:ib < w7.heap.size:=cell_lt j0;have hsl':=Lib.hid hsl;clear hel hsl
     go_wp2_with fail
     go_region
     refine name_w (fun W8=>Hid (QW E L P m d w L2 (stepped h2) Sv.run fr W8)∧w7.heap.size < W8.heap.size∧(W8.cell? ⟨w7.heap.size,0,none⟩=some (.int .i64 i.op)∧W8.cell? ⟨w7.heap.size,1,none⟩=some (.int .i64 i.a)∧W8.cell? ⟨w7.heap.size,2,none⟩=some (.int .i64 i.b)∧W8.cell? ⟨w7.heap.size,3,none⟩=some (.int .i64 i.c)∧W8.cell? ⟨w7.heap.size,4,none⟩=some (.int .i64 i.n)∧W8.cell? ⟨w7.heap.size,5,none⟩=some (.slice ax5 i.args.length acap5))) ?_ ?_
     ·have hb8:Below w7.heap.size w7 (w7.alloc (.cells #[.int .i64 i.op,.int .i64 i.a,.int .i64 i.b,.int .i64 i.c,.int .i64 i.n,.slice ax5 i.args.length acap5] 63)).drew:=by exact Rd.byB
      exact ⟨Lib.hid (G7.out.below hb8),by simp,⟨by go_simp,by go_simp,by go_simp,by go_simp,by go_simp,by go_simp⟩⟩
     rintro W8 ⟨G8,hs8,⟨y0,y1,y2,y3,y4,y5⟩⟩;have hnI:=Lib.hid (fun (k:Nat) (L9:RL) (W9:World) (G9:QW E L P m d w L9 (stepped h2) Sv.run fr W9)=>True.intro);have nI:∀ k,own E L2 k→k < w7.heap.size:=fun k hk=>(own_lo G7.out.H.rows hk).2;replace nI:=Lib.hid nI;have szI:w.heap.size+2 < w7.heap.size:=G7.out.sz;clear hnI G7 j0 j1 j2 j3 j4 j5 c13 m6 l2 nib;have HO8:=Lib.hid (step_hp HO5.out q1')
     have eS:outS RM E.f E.input E.fuel g3 (d+1) m fr h2=outA RM E.f E.input E.fuel g3 (d+1) m (RM.step E.f E.input m i fr (stepped h2)):=by
      unfold outS;rw [if_neg q1,show m.code[RM.at_ fr]? = some i from hci.out]
      rfl
     have hI:=M.ins i hmem;rw [eS] at hout HOK;clear eS;obtain ⟨op,a,b,c,n,args5⟩:=i;simp only at y0 y1 y2 y3 y4 y5 hsl';have h1000:fr.regs.length≤1000:=by have:=M.regs.2.2;have:=SO5.out.len;omega
     have cb8:P.cb < w7.heap.size:=cbw;have cb9:P.cb < W8.heap.size:=G8.out.F.cbw;have hb8:=G8.out.H.rows.base.2;have ncb:P.cb≠w7.heap.size:=by omega
     have ncb2:=ncb.symm
     by_cases q20:op=20
     ·as_aux_lemma =>
       subst q20;have MBX:=G8.out.M;rw [hPv1.out,hPv2.out,hPv3.out] at MBX;have k1:W8.cell? ⟨w.heap.size,1,none⟩=some (.int .i64 m.ret.kind):=(MBX 1 (by simp [mcells])).1
       clear MBX;have szq:=G8.out.sz;have szq0:w.heap.size < W8.heap.size:=by omega
       obtain ⟨_,_,_,_,_,r0,r1,f0,f1,n0,n1,_,_,_,_,_,_⟩:=id G8.out;have szq1:w.heap.size+1 < W8.heap.size:=by omega
       by_cases qk:m.ret.kind=0
       ·as_aux_lemma =>
         have hr0:Hid (r=.ok Vl.nil (stepped h2)):=by
          show r=_
          rw [hout.out]
          have e:outA RM E.f E.input E.fuel g3 (d+1) m (RM.step E.f E.input m ⟨20,a,b,c,n,args5⟩ fr (stepped h2))=.back Vl.nil (stepped h2):=by
           show outA RM E.f E.input E.fuel g3 (d+1) m (r20 E.f.classes m ⟨20,a,b,c,n,args5⟩ fr (stepped h2))=_
           unfold r20;rw [if_pos qk];rfl
          rw [e]
         have qkb:(m.ret.kind != 0)=false:=by simpa using qk
         have c4:=G8.out.H.c4;have f4:=G8.out.H.fz 4 (by decide)
         have nz1:w.heap.size+1≠E.hb:=by rcases G8.out.hbne with q | q <;> omega
         have nz3:=nz1.symm;clear hout HOK
         go_wp2_with fail
         refine bodyPost_ret (v:=.agg #[.int .i64 0,.int .i64 0]) (by simp [results,Try.results60,go_sem] <;> go_simp) rfl ?_
         exact rrq_below (G8.out.fin (by rw [hr0.out];exact ⟨rfl,rfl,rfl,rfl⟩)) (by exact Rd.byB)
       ·as_aux_lemma =>
         have qkb:(m.ret.kind != 0)=true:=by simpa using qk
         simp only [Rform.ins,Bool.and_eq_true] at hI;obtain ⟨⟨_,hb⟩,_⟩:=hI;simp [Rform.body,rng_iff,qk] at hb;obtain ⟨⟨rfl,rfl⟩,hreg⟩:=hb;obtain ⟨ka,rfl,hka⟩:=regl hreg SO5.out.len;obtain ⟨xk,xn,hxv,hrx⟩:∃ xk xn:Int,Hid (fr.regs.getD ka Vl.nil=⟨xk,xn⟩)∧rd fr (ka:Int)=⟨xk,xn⟩:=⟨(fr.regs.getD ka Vl.nil).kind,(fr.regs.getD ka Vl.nil).n,Lib.hid rfl,by unfold rd;rw [Int.toNat_natCast]⟩
         obtain ⟨p,hp⟩:∃ p,Hid (ofT E.f.classes (stepped h2) ⟨xk,xn⟩ m.ret=p):=⟨_,Lib.hid rfl⟩
         have hr0:Hid (r=if xk=m.ret.kind then (if p=true then .ok ⟨xk,xn⟩ (stepped h2) else .stop 6 (stepped h2)) else .stop 6 (stepped h2)):=by
          show r=_
          rw [hout.out]
          have e:outA RM E.f E.input E.fuel g3 (d+1) m (RM.step E.f E.input m ⟨20,(ka:Int),0,0,n,args5⟩ fr (stepped h2))=if xk=m.ret.kind then (if p=true then .back ⟨xk,xn⟩ (stepped h2) else .stop 6 (stepped h2)) else .stop 6 (stepped h2):=by
           show outA RM E.f E.input E.fuel g3 (d+1) m (r20 E.f.classes m ⟨20,(ka:Int),0,0,n,args5⟩ fr (stepped h2))=_
           unfold r20;rw [if_neg qk,hrx];unfold rkind
           by_cases q:xk=m.ret.kind
           ·rw [if_pos q,if_pos q,hp.out];cases p <;> rfl
           ·rw [if_neg q,if_neg q];rfl
          rw [e]
          by_cases q:xk=m.ret.kind
          ·rw [if_pos q,if_pos q];cases p <;> rfl
          ·rw [if_neg q,if_neg q]
         have v3:=Lib.hid (show xk=3→xn < ((stepped h2).objs.length:Int) from fun q=>by have:=rd_ok SO5.out (ka:Int);rw [hrx] at this;exact (this.2.2.2 q).2)
         clear hout HOK
         go_wp2_with fail
         generalize hW9:World.alloc W8 _=W9
         replace hW9:=Lib.hid hW9;have z0:W9.cell? ⟨W8.heap.size,0,none⟩=some (.int .i64 0):=by rw [← hW9.out];go_simp
         have z1:W9.cell? ⟨W8.heap.size,1,none⟩=some (.int .i64 0):=by rw [← hW9.out];go_simp
         have zf0:W9.frozen? ⟨W8.heap.size,0,none⟩=false:=by rw [← hW9.out];go_simp
         have zf1:W9.frozen? ⟨W8.heap.size,1,none⟩=false:=by rw [← hW9.out];go_simp
         have G9:=Lib.hid (G8.out.below (W2:=W9) (by rw [← hW9.out];exact Rd.byB))
         have nx:¬ KX E L2 P W8.heap.size:=G8.out.fresh (Nat.le_refl _);have lz:=cell_lt z0;clear hW9 y0 y1 y2 y3 y4 y5 r0 r1 f0 f1 n0 n1 k1;refine (readq G9.out.H rfl G9.out.F ka hka h1000 ⟨xk,xn⟩ hxv m.ret.kind).mono ?_;rintro e w10 ⟨rfl,H10,K10⟩;have z0':=K10.cell z0 (fun e=>nx (.inl e));have z1':=K10.cell z1 (fun e=>nx (.inl e));have zf0':=K10.frz zf0 lz (fun e=>nx (.inl e));have zf1':=K10.frz zf1 lz (fun e=>nx (.inl e));have G10:=Lib.hid (G9.out.heap K10 H10);have lz':=cell_lt z0';replace nx:=Lib.hid nx;clear z0 z1 zf0 zf1 H10 K10 lz
         go_wp2_with fail
         refine name_w (fun W11=>Hid (QW E L P m d w L2 (stepped h2) (rdS Sv.run xk m.ret.kind) fr W11)∧W8.heap.size < W11.heap.size∧W11.cell? ⟨W8.heap.size,0,none⟩=some (.int .i64 xk)∧W11.cell? ⟨W8.heap.size,1,none⟩=some (.int .i64 xn)) ?_ ?_
         ·exact ⟨Lib.hid ((G10.out.box (by omega) nx.out 0 (.int .i64 xk)).box (by omega) nx.out 1 (.int .i64 xn)),by simp;omega,by go_simp,by go_simp⟩
         rintro W11 ⟨G11,s11,b0,b1⟩;clear z0' z1' zf0' zf1' G9 G10 lz';have c12:=G11.out.H.c12;have MBX:=G11.out.M;rw [hPv1.out,hPv2.out,hPv3.out] at MBX;have k1:W11.cell? ⟨w.heap.size,1,none⟩=some (.int .i64 m.ret.kind):=(MBX 1 (by simp [mcells])).1
         have k2:W11.cell? ⟨w.heap.size,2,none⟩=some (.int .i64 m.ret.cls):=(MBX 2 (by simp [mcells])).1
         clear MBX;have nx0:¬ own E L2 W8.heap.size:=fun e=>nx.out (.inl e);have nxm:∀ j,w.heap.size≤j→j≤w.heap.size+2→¬ own E L2 j:=G11.out.nown;have nq1:w.heap.size+1≠W8.heap.size:=by omega
         have nq2:W8.heap.size≠w.heap.size+1:=by omega
         have nq3:W8.heap.size≠E.hb:=by omega
         have nq4:E.hb≠W8.heap.size:=by omega
         have H11d:=Lib.hid (G11.out.H.below (w':=W11.drew) (by exact Rd.byB))
         have G11d:=Lib.hid (G11.out.below (W2:=W11.drew) (by exact Rd.byB))
         have li:=cell_lt k1;have lh:=G11.out.H.rows.base.2
         by_cases q:xk=m.ret.kind
         ·rw [rd_run q] at c12 H11d G11d;simp only [Sv.run] at c12;have hr1:=Lib.hid (hr0.out.trans (if_pos q));clear hr0 q;refine Drawn.hd (fun w'=>w'.cell? ⟨W8.heap.size,0,none⟩=some (.int .i64 xk)∧w'.cell? ⟨W8.heap.size,1,none⟩=some (.int .i64 xn)∧w'.cell? ⟨w.heap.size,1,none⟩=some (.int .i64 m.ret.kind)∧w'.cell? ⟨w.heap.size,2,none⟩=some (.int .i64 m.ret.cls)) (h:=fun hHeld=>?_);refine dT 0 96 ?_;refine dT 1 97 ?_;refine dT 2 98 ?_;refine dT 3 99 ?_;refine dT 4 100 ?_;refine dT 5 101 ?_;refine dT 6 102 ?_;refine Drawn.cl 7 (fun K hK=>?_);go_simp;refine Drawn.bk hK (h:=fun hHeld=>?_);clear hK K;refine dT 8 104 ?_;refine dT 9 105 ?_;refine dT 10 106 ?_;refine dT 11 107 ?_;refine dT 12 108 ?_;refine dT 13 109 ?_;refine dT 14 110 ?_;refine dT 15 111 ?_;refine Drawn.cl 16 (fun K hK=>?_);go_simp;refine (ofV H11d.out S.may ⟨xk,xn⟩ m.ret _ hp.out (fun e=>v3.out e)).mono ?_;rintro e w12 ⟨rfl,hb12⟩;have G12:=Lib.hid (G11d.out.below hb12);have u1:=kept hb12 (by show _ < W11.heap.size;omega) b0
          have u2:=kept hb12 (by show _ < W11.heap.size;omega) b1
          have u3:=kept hb12 li k1;have u4:=kept hb12 li k2;have lu:=cell_lt u1;have H12:=G12.out.H;clear hb12
          go_wp2_with fail
          refine Drawn.bk hK (hS:=by (try dsimp only);exact ⟨u1,u2,u3,u4⟩) (h:=fun hHeld=>?_)
          clear hK K;refine dT 17 113 ?_;refine Drawn.cl 18 (fun K hK=>?_);go_simp
          cases p with
          | true =>
           refine (mustT H12 rfl).mono ?_;rintro e w13 ⟨rfl,rfl⟩;obtain ⟨_,_,_,_,_,r0,r1,f0,f1,n0,n1,_,_,_,_,_,_⟩:=id G12.out;have c4:=G12.out.H.c4;have f4:=G12.out.H.fz 4 (by decide)
           have hhz:=G12.out.H.rows.base.2;have szz:=G12.out.sz;have nz1:w.heap.size+1≠E.hb:=by rcases G12.out.hbne with q | q <;> omega
           have nz2:w.heap.size+1+1≠E.hb:=by rcases G12.out.hbne with q | q <;> omega
           have nz3:=nz1.symm;have nz4:=nz2.symm;have szy:w.heap.size+1 < w12.heap.size:=by omega
           have hr2:=Lib.hid (hr1.out.trans (if_pos rfl));clear hr1 H12
           go_wp2_with fail
           refine Drawn.bk hK (hS:=by (try dsimp only);exact ⟨u1,u2,u3,u4⟩) (h:=fun hHeld=>?_)
           clear hK K;refine dN ?_
           go_wp2_with fail
           refine bodyPost_ret (v:=.agg #[.int .i64 xk,.int .i64 xn]) (by simp [results,Try.results60,go_sem] <;> go_simp) rfl ?_
           exact rrq_below (G12.out.fin (by rw [hr2.out];exact ⟨rfl,rfl,rfl,rfl⟩)) (by exact Rd.byB)
          | false =>
           obtain ⟨A1,A2⟩:=ended H12 rfl 6 (Below.refl _ _);refine (mustF H12 rfl).mono ?_;rintro e w13 ⟨rfl,hw13⟩;rw [hw13] at A1 A2;have G13:=Lib.hid (G12.out.heap A2 A1);have x1:=A2.cell u1 nx0;have x2:=A2.cell u2 nx0;have x3:=A2.cell u3 (nxm _ (Nat.le_refl _) (by omega))
           have x4:=A2.cell u4 (nxm _ (Nat.le_refl _) (by omega))
           have lx:=cell_lt x1;have hr2:=Lib.hid (hr1.out.trans (if_neg (by simp)))
           clear hr1 H12 hw13 A1 A2 G12 u1 u2 u3 u4;obtain ⟨_,_,_,_,_,r0,r1,f0,f1,n0,n1,_,_,_,_,_,_⟩:=id G13.out;have c4:=G13.out.H.c4;have f4:=G13.out.H.fz 4 (by decide)
           have hhz:=G13.out.H.rows.base.2;have szz:=G13.out.sz;have nz1:w.heap.size+1≠E.hb:=by rcases G13.out.hbne with q | q <;> omega
           have nz2:w.heap.size+1+1≠E.hb:=by rcases G13.out.hbne with q | q <;> omega
           have nz3:=nz1.symm;have nz4:=nz2.symm;have szy:w.heap.size+1 < w13.heap.size:=by omega
           go_wp2_with fail
           refine Drawn.bk hK (hS:=by (try dsimp only);exact ⟨x1,x2,x3,x4⟩) (h:=fun hHeld=>?_)
           clear hK K;refine dN ?_
           go_wp2_with fail
           refine bodyPost_ret (v:=.agg #[.int .i64 xk,.int .i64 xn]) (by simp [results,Try.results60,go_sem] <;> go_simp) rfl ?_
           exact rrq_below (G13.out.fin (by rw [hr2.out];exact ⟨rfl,rfl⟩)) (by exact Rd.byB)
         ·have G11b:=G11.out;rw [rd_bad q] at c12 H11d G11d G11b;replace G11b:=Lib.hid G11b;simp only [Sv.ends] at c12;have hr1:=Lib.hid (hr0.out.trans (if_neg q));clear hr0 q;refine Drawn.hd (fun w'=>w'.cell? ⟨W8.heap.size,0,none⟩=some (.int .i64 xk)∧w'.cell? ⟨W8.heap.size,1,none⟩=some (.int .i64 xn)∧w'.cell? ⟨w.heap.size,1,none⟩=some (.int .i64 m.ret.kind)∧w'.cell? ⟨w.heap.size,2,none⟩=some (.int .i64 m.ret.cls)) (h:=fun hHeld=>?_);refine dT 0 96 ?_;refine dT 1 97 ?_;refine dT 2 98 ?_;refine dT 3 99 ?_;refine dT 4 100 ?_;refine dT 5 101 ?_;refine dT 6 102 ?_;refine Drawn.cl 7 (fun K hK=>?_);go_simp;refine Drawn.bk hK (h:=fun hHeld=>?_);clear hK K;refine dT 8 104 ?_;refine dT 9 105 ?_;refine dS 10 106 ?_;refine dS 11 107 ?_;refine dS 12 108 ?_;refine dS 13 109 ?_;refine dS 14 110 ?_;refine dS 15 111 ?_;refine dS 16 112 ?_;refine dT 17 113 ?_;refine Drawn.cl 18 (fun K hK=>?_);go_simp;refine (mustO H11d.out rfl _).mono ?_;rintro e w12 ⟨rfl,rfl⟩;obtain ⟨_,_,_,_,_,r0,r1,f0,f1,n0,n1,_,_,_,_,_,_⟩:=id G11.out;have c4:=G11.out.H.c4;have f4:=G11.out.H.fz 4 (by decide)
          have hhz:=G11.out.H.rows.base.2;have szz:=G11.out.sz;have nz1:w.heap.size+1≠E.hb:=by rcases G11.out.hbne with q | q <;> omega
          have nz2:w.heap.size+1+1≠E.hb:=by rcases G11.out.hbne with q | q <;> omega
          have nz3:=nz1.symm;have nz4:=nz2.symm;have szy:w.heap.size+1 < W11.heap.size:=by omega
          go_wp2_with fail
          refine Drawn.bk hK (h:=fun hHeld=>?_);clear hK K;refine dN ?_
          go_wp2_with fail
          refine bodyPost_ret (v:=.agg #[.int .i64 xk,.int .i64 xn]) (by simp [results,Try.results60,go_sem] <;> go_simp) rfl ?_
          exact rrq_below (G11b.out.fin (by rw [hr1.out];exact ⟨rfl,rfl⟩)) (by exact Rd.byB)
     have q20b:(op==20)=false:=by simpa using q20
     have d9:=G8.out.F.c9;have d10:=G8.out.F.c10;have d11:=G8.out.F.c11;have d12:=G8.out.F.c12;have d13:=G8.out.F.c13;have e9:=G8.out.F.fz 9 (by decide)
     have e10:=G8.out.F.fz 10 (by decide)
     have e11:=G8.out.F.fz 11 (by decide)
     have e12:=G8.out.F.fz 12 (by decide)
     obtain ⟨_,_,_,_,_,_,_,_,_,t0,t1,_,_,_,_,_,_⟩:=id G8.out;have szt:w.heap.size+1+1 < W8.heap.size:=by have:=G8.out.sz;omega
     have szt1:w.heap.size+1 < W8.heap.size:=by omega
     have szt0:w.heap.size < W8.heap.size:=by omega
     have hwr:IntKind.i64.wrap ((fr.at_:Int)+1)=(fr.at_:Int)+1:=by rw [Num.wrap_i64,wrap64_id (by unfold Ok;omega)]
     have hI2:=Lib.hid hI;simp only [Rform.ins,Bool.and_eq_true] at hI;obtain ⟨⟨_,hb⟩,_⟩:=hI
     by_cases q19:op=19
     ·as_aux_lemma =>
       subst q19;simp [Rform.body,rng_iff] at hb;have hreg:Rform.reg m.regs a b=true:=hb.1.2;obtain ⟨ka,rfl,hka⟩:=regl hreg SO5.out.len
       have hact:Hid (outA RM E.f E.input E.fuel g3 (d+1) m (RM.step E.f E.input m ⟨19,(ka:Int),b,c,n,args5⟩ fr (stepped h2))=if fr.given.kind=b then .go ⟨Run.store fr.regs ka fr.given,fr.at_+1,Vl.nil,Vl.nil⟩ (stepped h2) else .stop 6 (stepped h2)):=by
        show outA RM E.f E.input E.fuel g3 (d+1) m (r19 ⟨19,(ka:Int),b,c,n,args5⟩ fr (stepped h2))=_
        unfold r19 rkind;simp only
        by_cases q:fr.given.kind=b
        ·rw [if_pos q,if_pos q];rfl
        ·rw [if_neg q,if_neg q];rfl
       clear hb
       go_wp2_with fail
       refine name_w (fun WX=>Hid (QW E L P m d w L2 (stepped h2) Sv.run ⟨fr.regs,fr.at_,Vl.nil,Vl.nil⟩ WX)∧W8.heap.size+1 < WX.heap.size∧(WX.cell? ⟨W8.heap.size,0,none⟩=some (.int .i64 fr.given.kind)∧WX.cell? ⟨W8.heap.size,1,none⟩=some (.int .i64 fr.given.n)∧WX.cell? ⟨W8.heap.size+1,0,none⟩=some (.int .i64 fr.got.kind)∧WX.cell? ⟨W8.heap.size+1,1,none⟩=some (.int .i64 fr.got.n))∧(WX.cell? ⟨w7.heap.size,0,none⟩=some (.int .i64 19)∧WX.cell? ⟨w7.heap.size,1,none⟩=some (.int .i64 ka)∧WX.cell? ⟨w7.heap.size,2,none⟩=some (.int .i64 b)∧WX.cell? ⟨w7.heap.size,3,none⟩=some (.int .i64 c)∧WX.cell? ⟨w7.heap.size,4,none⟩=some (.int .i64 n)∧WX.cell? ⟨w7.heap.size,5,none⟩=some (.slice ax5 args5.length acap5))) ?_ ?_
       ·exact ⟨Lib.hid (by first | exact (G8.out.below (by exact Rd.byB)).clear | exact (G8.out.clear).below (by exact Rd.byB)),by first | omega | (simp;done) | (simp;omega),⟨by go_simp,by go_simp,by go_simp,by go_simp⟩,⟨by go_simp,by go_simp,by go_simp,by go_simp,by go_simp,by go_simp⟩⟩
       rintro WX ⟨GX,hsX,⟨g0,g1,v0,v1⟩,⟨x0,x1,x2,x3,x4,x5⟩⟩;clear y0 y1 y2 y3 y4 y5 d9 d10 d11 d12 e9 e10 e11 e12 t0 t1 szt szt1 szt0;have HX8:=Lib.hid G8;have lI:=cell_lt x0;have lG:=cell_lt g0;have lG1:=cell_lt v0;have GXd:=Lib.hid (GX.out.below (W2:=WX.drew) (by exact Rd.byB))
       have HXd:=GXd.out.H;refine Drawn.hd (fun w'=>w'.cell? ⟨W8.heap.size,0,none⟩=some (.int .i64 fr.given.kind)∧w'.cell? ⟨w7.heap.size,2,none⟩=some (.int .i64 b)) (h:=fun hHeld=>?_);refine dT 0 154 ?_;refine dT 1 155 ?_;refine dT 2 156 ?_;refine dT 3 157 ?_;refine dT 4 158 ?_;refine dT 5 159 ?_;refine dT 6 160 ?_;refine dT 7 161 ?_;refine Drawn.cl 8 (fun K hK=>?_);go_simp
       by_cases qk:fr.given.kind=b
       ·as_aux_lemma =>
         have qb:(fr.given.kind==b)=true:=by simpa using qk
         have hr1:=Lib.hid (hout.out.trans (by rw [hact.out,if_pos qk]))
         rw [hact.out,if_pos qk] at HOK;have hwd:=regw (v:=fr.given) hreg SO5.out.len (fun e=>by rw [← qk];exact e)
         clear hact hout qk;rw [qb];refine (mustT HXd rfl).mono ?_;rintro e w9 ⟨rfl,rfl⟩
         go_wp2_with fail
         refine Drawn.bk hK (h:=fun hHeld=>?_);clear hK K;refine dN ?_
         go_wp2_with fail
         refine (writeq GXd.out.H GXd.out.F SO5.out.regs.pair ka fr.given hwd h1000).mono ?_;rintro e w12 ⟨rfl,H12,F12,K12⟩;have G12:=Lib.hid (GXd.out.next K12 same_own H12 F12);clear H12 F12 K12
         rcases HOK.out with ⟨cc,hh,ee⟩ | ⟨_,hok⟩
         ·cases ee
         obtain ⟨⟨HO12,_,_⟩,SO12⟩:=hok;have HRR:=hr1.out.symm;have c12:=G12.out.H.c12;have c13:=G12.out.H.c13;simp only [Sv.run] at c12 c13;have k13:=G12.out.F.c13;have f13:=G12.out.F.fz 13 (by decide)
         have cbz:=G12.out.F.cbw;have hbz:=G12.out.H.rows.base.2
         go_wp2_with fail
         have G13:=G12.out.setAt (fr.at_+1);rw [show ((fr.at_+1:Nat):Int)=(fr.at_:Int)+1 from rfl] at G13;refine ⟨⟨_,_,_,g3,(by show h.steps≤h2.steps+1;omega),G13,HO12,SO12,HRR,(by show E.fuel < g3+(h2.steps+1);omega)⟩,?_⟩
         rw [steps_of G13.H,hstp.out];omega
       ·as_aux_lemma =>
         have qb:(fr.given.kind==b)=false:=by simpa using qk
         have hr1:Hid (r=.stop 6 (stepped h2)):=by
          show r=_
          rw [hout.out,hact.out,if_neg qk]
         clear hact hout HOK qk;obtain ⟨A1,A2⟩:=ended HXd rfl 6 (Below.refl _ _);rw [qb];refine (mustF HXd rfl).mono ?_;rintro e w9 ⟨rfl,hw9⟩;rw [hw9] at A1 A2;have G9:=Lib.hid (GXd.out.heap A2 A1);have nn:∀ k,w7.heap.size≤k→¬ own E L2 k:=fun k hk e=>by have:=nI.out k e;omega
         have z0:=A2.cell g0 (nn _ (by omega))
         have z2:=A2.cell x2 (nn _ (Nat.le_refl _));clear hw9 A1 A2 nn;have c12:=G9.out.H.c12;simp only [Sv.ends] at c12;obtain ⟨_,_,_,_,_,r0,r1,f0,f1,n0,n1,_,_,_,_,_,_⟩:=id G9.out;have c4:=G9.out.H.c4;have f4:=G9.out.H.fz 4 (by decide)
         have hhz:=G9.out.H.rows.base.2;have szz:=G9.out.sz;have nz1:w.heap.size+1≠E.hb:=by rcases G9.out.hbne with q | q <;> omega
         have nz2:w.heap.size+1+1≠E.hb:=by rcases G9.out.hbne with q | q <;> omega
         have nz3:=nz1.symm;have nz4:=nz2.symm;have szy:w.heap.size+1 < w9.heap.size:=by omega
         go_wp2_with fail
         refine Drawn.bk hK (hS:=by (try dsimp only);exact ⟨z0,z2⟩) (h:=fun hHeld=>?_)
         clear hK K;refine dN ?_
         go_wp2_with fail
         refine bodyPost_ret (v:=.agg #[.int .i64 0,.int .i64 0]) (by simp [results,Try.results60,go_sem] <;> go_simp) rfl ?_
         exact rrq_below (G9.out.fin (by rw [hr1.out];exact ⟨rfl,rfl⟩)) (by exact Rd.byB)
     by_cases q22:op=22
     ·as_aux_lemma =>
       subst q22;simp [Rform.body,rng_iff] at hb;have hreg:Rform.reg m.regs a 3=true:=hb.1.1;obtain ⟨ka,rfl,hka⟩:=regl hreg SO5.out.len
       have hact:Hid (outA RM E.f E.input E.fuel g3 (d+1) m (RM.step E.f E.input m ⟨22,(ka:Int),b,c,n,args5⟩ fr (stepped h2))=if fr.got.kind=3 then .go ⟨Run.store fr.regs ka fr.got,fr.at_+1,Vl.nil,Vl.nil⟩ (stepped h2) else .stop 6 (stepped h2)):=by
        show outA RM E.f E.input E.fuel g3 (d+1) m (r22 ⟨22,(ka:Int),b,c,n,args5⟩ fr (stepped h2))=_
        unfold r22 rkind;simp only
        by_cases q:fr.got.kind=3
        ·rw [if_pos q,if_pos q];rfl
        ·rw [if_neg q,if_neg q];rfl
       clear hb
       go_wp2_with fail
       refine name_w (fun WX=>Hid (QW E L P m d w L2 (stepped h2) Sv.run ⟨fr.regs,fr.at_,Vl.nil,Vl.nil⟩ WX)∧W8.heap.size+1 < WX.heap.size∧(WX.cell? ⟨W8.heap.size,0,none⟩=some (.int .i64 fr.given.kind)∧WX.cell? ⟨W8.heap.size,1,none⟩=some (.int .i64 fr.given.n)∧WX.cell? ⟨W8.heap.size+1,0,none⟩=some (.int .i64 fr.got.kind)∧WX.cell? ⟨W8.heap.size+1,1,none⟩=some (.int .i64 fr.got.n))∧(WX.cell? ⟨w7.heap.size,0,none⟩=some (.int .i64 22)∧WX.cell? ⟨w7.heap.size,1,none⟩=some (.int .i64 ka)∧WX.cell? ⟨w7.heap.size,2,none⟩=some (.int .i64 b)∧WX.cell? ⟨w7.heap.size,3,none⟩=some (.int .i64 c)∧WX.cell? ⟨w7.heap.size,4,none⟩=some (.int .i64 n)∧WX.cell? ⟨w7.heap.size,5,none⟩=some (.slice ax5 args5.length acap5))) ?_ ?_
       ·exact ⟨Lib.hid (by first | exact (G8.out.below (by exact Rd.byB)).clear | exact (G8.out.clear).below (by exact Rd.byB)),by first | omega | (simp;done) | (simp;omega),⟨by go_simp,by go_simp,by go_simp,by go_simp⟩,⟨by go_simp,by go_simp,by go_simp,by go_simp,by go_simp,by go_simp⟩⟩
       rintro WX ⟨GX,hsX,⟨g0,g1,v0,v1⟩,⟨x0,x1,x2,x3,x4,x5⟩⟩;clear y0 y1 y2 y3 y4 y5 d9 d10 d11 d12 e9 e10 e11 e12 t0 t1 szt szt1 szt0;have HX8:=Lib.hid G8;have lI:=cell_lt x0;have lG:=cell_lt g0;have lG1:=cell_lt v0;have GXd:=Lib.hid (GX.out.below (W2:=WX.drew) (by exact Rd.byB))
       have HXd:=GXd.out.H;refine Drawn.hd (fun w'=>w'.cell? ⟨W8.heap.size+1,0,none⟩=some (.int .i64 fr.got.kind)) (h:=fun hHeld=>?_);refine dT 0 171 ?_;refine dT 1 172 ?_;refine dT 2 173 ?_;refine dT 3 174 ?_;refine dT 4 175 ?_;refine dT 5 176 ?_;refine Drawn.cl 6 (fun K hK=>?_);go_simp
       by_cases qk:fr.got.kind=3
       ·as_aux_lemma =>
         have qb:(fr.got.kind==3)=true:=by simpa using qk
         have hr1:=Lib.hid (hout.out.trans (by rw [hact.out,if_pos qk]))
         rw [hact.out,if_pos qk] at HOK;have hwd:=regw (v:=fr.got) hreg SO5.out.len (fun e=>by rw [← qk];exact e)
         clear hact hout qk;rw [qb];refine (mustT HXd rfl).mono ?_;rintro e w9 ⟨rfl,rfl⟩
         go_wp2_with fail
         refine Drawn.bk hK (h:=fun hHeld=>?_);clear hK K;refine dN ?_
         go_wp2_with fail
         refine (writeq GXd.out.H GXd.out.F SO5.out.regs.pair ka fr.got hwd h1000).mono ?_;rintro e w12 ⟨rfl,H12,F12,K12⟩;have G12:=Lib.hid (GXd.out.next K12 same_own H12 F12);clear H12 F12 K12
         rcases HOK.out with ⟨cc,hh,ee⟩ | ⟨_,hok⟩
         ·cases ee
         obtain ⟨⟨HO12,_,_⟩,SO12⟩:=hok;have HRR:=hr1.out.symm;have c12:=G12.out.H.c12;have c13:=G12.out.H.c13;simp only [Sv.run] at c12 c13;have k13:=G12.out.F.c13;have f13:=G12.out.F.fz 13 (by decide)
         have cbz:=G12.out.F.cbw;have hbz:=G12.out.H.rows.base.2
         go_wp2_with fail
         have G13:=G12.out.setAt (fr.at_+1);rw [show ((fr.at_+1:Nat):Int)=(fr.at_:Int)+1 from rfl] at G13;refine ⟨⟨_,_,_,g3,(by show h.steps≤h2.steps+1;omega),G13,HO12,SO12,HRR,(by show E.fuel < g3+(h2.steps+1);omega)⟩,?_⟩
         rw [steps_of G13.H,hstp.out];omega
       ·as_aux_lemma =>
         have qb:(fr.got.kind==3)=false:=by simpa using qk
         have hr1:Hid (r=.stop 6 (stepped h2)):=by
          show r=_
          rw [hout.out,hact.out,if_neg qk]
         clear hact hout HOK qk;obtain ⟨A1,A2⟩:=ended HXd rfl 6 (Below.refl _ _);rw [qb];refine (mustF HXd rfl).mono ?_;rintro e w9 ⟨rfl,hw9⟩;rw [hw9] at A1 A2;have G9:=Lib.hid (GXd.out.heap A2 A1);have nn:∀ k,w7.heap.size≤k→¬ own E L2 k:=fun k hk e=>by have:=nI.out k e;omega
         have z0:=A2.cell v0 (nn _ (by omega))
         have z2:=A2.cell x2 (nn _ (Nat.le_refl _));clear hw9 A1 A2 nn;have c12:=G9.out.H.c12;simp only [Sv.ends] at c12;obtain ⟨_,_,_,_,_,r0,r1,f0,f1,n0,n1,_,_,_,_,_,_⟩:=id G9.out;have c4:=G9.out.H.c4;have f4:=G9.out.H.fz 4 (by decide)
         have hhz:=G9.out.H.rows.base.2;have szz:=G9.out.sz;have nz1:w.heap.size+1≠E.hb:=by rcases G9.out.hbne with q | q <;> omega
         have nz2:w.heap.size+1+1≠E.hb:=by rcases G9.out.hbne with q | q <;> omega
         have nz3:=nz1.symm;have nz4:=nz2.symm;have szy:w.heap.size+1 < w9.heap.size:=by omega
         go_wp2_with fail
         refine Drawn.bk hK (hS:=by (try dsimp only);exact z0) (h:=fun hHeld=>?_)
         clear hK K;refine dN ?_
         go_wp2_with fail
         refine bodyPost_ret (v:=.agg #[.int .i64 0,.int .i64 0]) (by simp [results,Try.results60,go_sem] <;> go_simp) rfl ?_
         exact rrq_below (G9.out.fin (by rw [hr1.out];exact ⟨rfl,rfl⟩)) (by exact Rd.byB)
     as_aux_lemma =>
      have b19:(op==19)=false:=by simpa using q19
      have b22:(op==22)=false:=by simpa using q22
      have hact:RM.step E.f E.input m ⟨op,a,b,c,n,args5⟩ fr (stepped h2)=RM.step E.f E.input m ⟨op,a,b,c,n,args5⟩ ⟨fr.regs,fr.at_,Vl.nil,Vl.nil⟩ (stepped h2):=rstep_clr2 (i:=⟨op,a,b,c,n,args5⟩) q19 q22;rw [hact] at hout HOK;have hfY:RfOk m (stepped h2).objs.length ⟨fr.regs,fr.at_,Vl.nil,Vl.nil⟩:=⟨SO5.out.regs,SO5.out.len,nil_ok _,nil_ok _⟩;obtain ⟨ac,hac⟩:∃ x,Hid (outA RM E.f E.input E.fuel g3 (d+1) m (RM.step E.f E.input m ⟨op,a,b,c,n,args5⟩ ⟨fr.regs,fr.at_,Vl.nil,Vl.nil⟩ (stepped h2))=x):=⟨_,Lib.hid rfl⟩;rw [hac.out] at hout HOK;have HQ8:=Lib.hid (HRun.out (stepped h2) g3 (by show E.fuel < g3+(h2.steps+1);omega) (by show h.steps < h2.steps+1;omega))
      clear hact hb
      go_wp2_with fail
      refine name_calls (fun WX=>Hid (QW E L P m d w L2 (stepped h2) Sv.run ⟨fr.regs,fr.at_,Vl.nil,Vl.nil⟩ WX)) ?_ ?_
      ·exact Lib.hid (by first | exact (G8.out.below (by exact Rd.byB)).clear | exact (G8.out.clear).below (by exact Rd.byB))
      rintro WX GX;clear y0 y1 y2 y3 y4 y5 d9 d10 d11 d12 d13 e9 e10 e11 e12 t0 t1 szt szt1 szt0 G8;have hvX:Sl 1 EInt WX E.B (.slice ax5 args5.length acap5) args5:=Sl.mono mInt hsl'.out (GX.out.K.below hEB (fun k hk=>(HOLD.out k hk).1)) (Nat.le_refl _);refine (doesQ S M GX.out.H GX.out.F HO8.out hfY (by omega) hfu hin g3 HQ8.out op a b c n args5 hI2.out q19 q20 q22 ax5 acap5 hvX).mono ?_
      rw [hac.out];rintro e w9 ⟨ii,L9,rfl,K9,N9,R9⟩
      cases ac with
      | back v h'=>exact R9.elim
      | go fr' h' =>
       as_aux_lemma =>
        obtain ⟨rfl,H9,F9⟩:=R9;have G12:=Lib.hid (GX.out.next K9 N9 H9 F9);clear H9 F9 K9 N9 hvX
        rcases HOK.out with ⟨cc,hh,ee⟩ | ⟨_,hok⟩
        ·cases ee
        obtain ⟨⟨HO12,_,hs12⟩,SO12⟩:=hok;have hs12':h2.steps+1≤h'.steps:=hs12;have HRR:=hout.out.symm;have c12:=G12.out.H.c12;have c13:=G12.out.H.c13;simp only [Sv.run] at c12 c13;have k13:=G12.out.F.c13;have f13:=G12.out.F.fz 13 (by decide)
        have cbz:=G12.out.F.cbw;have hbz:=G12.out.H.rows.base.2
        go_wp2_with fail
        have egot:fr'.got=Vl.nil:=egQ hac.out;have G13:=G12.out.setAt fr'.at_;have efr:(⟨fr'.regs,fr'.at_,fr'.given,Vl.nil⟩:Rf)=fr':=by rw [← egot]
        rw [show (⟨(⟨fr'.regs,fr.at_,fr'.given,Vl.nil⟩:Rf).regs,fr'.at_,(⟨fr'.regs,fr.at_,fr'.given,Vl.nil⟩:Rf).given,(⟨fr'.regs,fr.at_,fr'.given,Vl.nil⟩:Rf).got⟩:Rf)=fr' from efr] at G13;refine ⟨⟨_,_,_,g3,(by omega),G13,HO12,SO12,HRR,(by omega)⟩,?_⟩
        rw [steps_of G13.H,hstp.out];omega
      | thrown o h' =>
       as_aux_lemma =>
        obtain ⟨H9,F9⟩:=R9;have G12:=Lib.hid (GX.out.next K9 N9 H9 F9);clear H9 F9 K9 N9 hvX
        rcases HOK.out with ⟨cc,hh,ee⟩ | ⟨_,hok⟩
        ·cases ee
        obtain ⟨⟨HO12,ho1,hs12⟩,ho12⟩:=hok;have hs12':h2.steps+1≤h'.steps:=hs12;have c12:=G12.out.H.c12;have c13:=G12.out.H.c13;simp only [Sv.thr] at c12 c13;have k13:=G12.out.F.c13;have cbz:=G12.out.F.cbw;have hbz:=G12.out.H.rows.base.2;have ho0:(0:Int)≤(o:Int):=by omega
        have MBX:=G12.out.M;rw [hPv1.out,hPv2.out,hPv3.out] at MBX;have m0:w9.cell? ⟨w.heap.size,0,none⟩=some (.slice pa m.params.length pcap):=(MBX 0 (by simp [mcells])).1
        have m1:w9.cell? ⟨w.heap.size,1,none⟩=some (.int .i64 m.ret.kind):=(MBX 1 (by simp [mcells])).1
        have m2:w9.cell? ⟨w.heap.size,2,none⟩=some (.int .i64 m.ret.cls):=(MBX 2 (by simp [mcells])).1
        have m3:w9.cell? ⟨w.heap.size,3,none⟩=some (.int .i64 m.stack):=(MBX 3 (by simp [mcells])).1
        have m4:w9.cell? ⟨w.heap.size,4,none⟩=some (.int .i64 m.locals):=(MBX 4 (by simp [mcells])).1
        have m5:w9.cell? ⟨w.heap.size,5,none⟩=some (.int .i64 m.regs):=(MBX 5 (by simp [mcells])).1
        have m6:w9.cell? ⟨w.heap.size,6,none⟩=some (.slice (some ⟨ib,io,none⟩) m.code.length icap):=(MBX 6 (by simp [mcells])).1
        have m7:w9.cell? ⟨w.heap.size,7,none⟩=some (.slice xa m.handlers.length xcap):=(MBX 7 (by simp [mcells])).1
        clear MBX;have lm:=cell_lt m0;have G12d:=Lib.hid (G12.out.below (W2:=w9.drew) (by exact Rd.byB))
        have HHX:=Lib.hid (HHA.out.mono mHd (G12d.out.K.below hEB (fun k hk=>(HOLD.out k hk).1)) (Nat.le_refl _));obtain ⟨x,hx⟩:∃ x,Hid (handler E.f.classes m fr.at_ (obj h' o).cls=x):=⟨_,Lib.hid rfl⟩
        go_wp2_with fail
        refine Drawn.hd (fun w'=>(w'.cell? ⟨P.cb,13,none⟩=some (.int .i64 fr.at_))∧w'.cell? ⟨w.heap.size,0,none⟩=some (.slice pa m.params.length pcap)∧w'.cell? ⟨w.heap.size,1,none⟩=some (.int .i64 m.ret.kind)∧w'.cell? ⟨w.heap.size,2,none⟩=some (.int .i64 m.ret.cls)∧w'.cell? ⟨w.heap.size,3,none⟩=some (.int .i64 m.stack)∧w'.cell? ⟨w.heap.size,4,none⟩=some (.int .i64 m.locals)∧w'.cell? ⟨w.heap.size,5,none⟩=some (.int .i64 m.regs)∧w'.cell? ⟨w.heap.size,6,none⟩=some (.slice (some ⟨ib,io,none⟩) m.code.length icap)∧w'.cell? ⟨w.heap.size,7,none⟩=some (.slice xa m.handlers.length xcap)) (h:=fun hHeld=>?_);refine dT 0 195 ?_;refine dT 1 196 ?_;refine dT 2 197 ?_;refine dT 3 198 ?_;refine dT 4 199 ?_;refine dT 5 200 ?_;refine dT 6 201 ?_;refine dT 7 202 ?_;refine Drawn.cl 8 (fun K hK=>?_);go_simp
        cases x with
        | none =>
         have hr0:Hid (r=.thrown o h'):=by
          show r=_
          rw [hout.out]
          have ea:after RM E.f m fr o h'=.thrown:=by
           unfold after;rw [show RM.at_ fr=fr.at_ from rfl,hx.out]
          simp only [ea]
         refine (caught G12d.out.H ho12 S.may m HHX.out fr.at_ (-1) (by rw [hx.out];rfl)).mono ?_
         rintro e w10 ⟨rfl,hb10⟩;have u0:=kept hb10 cbz k13;have u1:=kept hb10 lm m0;have u2:=kept hb10 lm m1;have u3:=kept hb10 lm m2;have u4:=kept hb10 lm m3;have u5:=kept hb10 lm m4;have u6:=kept hb10 lm m5;have u7:=kept hb10 lm m6;have u8:=kept hb10 lm m7;have G10:=Lib.hid (G12d.out.below hb10);clear hb10 hout;obtain ⟨_,_,_,_,_,r0,r1,f0,f1,n0,n1,_,_,_,_,_,_⟩:=id G10.out;have c4:=G10.out.H.c4;have f4:=G10.out.H.fz 4 (by decide)
         have hhz:=G10.out.H.rows.base.2;have szz:=G10.out.sz;have nz1:w.heap.size+1≠E.hb:=by rcases G10.out.hbne with q | q <;> omega
         have nz2:w.heap.size+1+1≠E.hb:=by rcases G10.out.hbne with q | q <;> omega
         have nz3:=nz1.symm;have nz4:=nz2.symm;have szy:w.heap.size+1 < w10.heap.size:=by omega
         go_wp2_with fail
         refine Drawn.bk hK (hS:=by (try dsimp only);exact ⟨u0,u1,u2,u3,u4,u5,u6,u7,u8⟩) (h:=fun hHeld=>?_)
         clear hK K;refine dT 9 15 ?_;refine dN ?_
         go_wp2_with fail
         refine bodyPost_ret (v:=.agg #[.int .i64 0,.int .i64 0]) (by simp [results,Try.results60,go_sem] <;> go_simp) rfl ?_
         exact rrq_below (G10.out.fin (by rw [hr0.out];exact ⟨rfl,rfl,rfl,rfl⟩)) (by exact Rd.byB)
        | some x =>
         have hxm:x∈m.handlers:=List.mem_of_find?_eq_some hx.out
         have hgo:0≤x.go:=by
          have:=M.hds.2 x hxm
          simp only [Form.hd,Bool.and_eq_true,rng_iff] at this;exact this.1.2.1
         obtain ⟨ng,hng⟩:∃ ng:Nat,x.go=(ng:Int):=⟨x.go.toNat,by omega⟩
         have HRR:loop RM E.f E.input E.fuel g3 (d+1) m ⟨fr.regs,ng,Vl.nil,⟨3,o⟩⟩ h'=r:=by
          rw [hout.out]
          have ea:after RM E.f m fr o h'=.go ⟨fr.regs,ng,Vl.nil,⟨3,o⟩⟩:=by
           unfold after;rw [show RM.at_ fr=fr.at_ from rfl,hx.out];simp only;rw [show RM.caught m fr x.go.toNat o=some ⟨fr.regs,x.go.toNat,Vl.nil,⟨3,o⟩⟩ from rfl,hng]
           rfl
          simp only [ea]
         have SO12:RfOk m h'.objs.length ⟨fr.regs,ng,Vl.nil,⟨3,o⟩⟩:=MO.out.caught m hm.out _ o ng fr _ ho12 HO12.many (MO.out.mono m _ _ fr ho1 SO5.out) rfl;replace HRR:=Lib.hid HRR;replace SO12:=Lib.hid SO12;refine (caught G12d.out.H ho12 S.may m HHX.out fr.at_ (ng:Int) (by rw [hx.out];exact hng)).mono ?_
         rintro e w10 ⟨rfl,hb10⟩;have u0:=kept hb10 cbz k13;have u1:=kept hb10 lm m0;have u2:=kept hb10 lm m1;have u3:=kept hb10 lm m2;have u4:=kept hb10 lm m3;have u5:=kept hb10 lm m4;have u6:=kept hb10 lm m5;have u7:=kept hb10 lm m6;have u8:=kept hb10 lm m7;have hz:=kept hb10 hbz c13;have G10:=Lib.hid (G12d.out.below hb10);have fz13:=G10.out.H.fz 13 (by decide)
         have e11:=G10.out.F.c11;have e12:=G10.out.F.c12;have ef11:=G10.out.F.fz 11 (by decide)
         have ef12:=G10.out.F.fz 12 (by decide)
         have ef13:=G10.out.F.fz 13 (by decide)
         have cbx:=G10.out.F.cbw;have hbx:=G10.out.H.rows.base.2;have nch:P.cb≠E.hb:=fun e=>G10.out.F.far.1 (.inl e);have nch2:=nch.symm;clear hb10 hout c12 c13 k13 m0 m1 m2 m3 m4 m5 m6 m7
         go_wp2_with fail
         refine Drawn.bk hK (hS:=by (try dsimp only);exact ⟨u0,u1,u2,u3,u4,u5,u6,u7,u8⟩) (h:=fun hHeld=>?_)
         clear hK K;refine dT 9 15 ?_;refine dN ?_
         go_wp2_with fail
         have Ga:=G10.out.setGot ⟨3,o⟩
         have Gb:QW E L P m d w L9 h' Sv.run ⟨fr.regs,fr.at_,Vl.nil,⟨3,o⟩⟩ (((w10.setCell ⟨P.cb,11,none⟩ (.int .i64 3)).setCell ⟨P.cb,12,none⟩ (.int .i64 o)).setCell ⟨E.hb,13,none⟩ (.int .i64 (-1))):=by
          have A2:=RH.set Ga.H 13 (by decide) (.int .i64 (-1)) (h':=h') (d':=d+1) (s':=Sv.run) rfl rfl (by simp [cellsR,Sv.thr,Sv.run])
          exact Ga.heap ((Kp.refl (own E L9) _).setCell (p:=⟨E.hb,13,none⟩) (.inl (.inl rfl)) _) A2
         have Gc:=Gb.setAt ng;refine ⟨⟨_,_,_,g3,(by omega),Gc,HO12,SO12.out,HRR.out,(by omega)⟩,?_⟩
         rw [steps_of Gc.H,hstp.out];omega
      | stop c2 h' =>
       as_aux_lemma =>
        obtain ⟨H9,fr9,F9⟩:=R9;have G12:=Lib.hid (GX.out.next K9 N9 H9 F9);have hr0:Hid (r=.stop c2 h'):=hout;clear hout K9 N9 H9 F9 hvX;have c12:=G12.out.H.c12;simp only [Sv.ends] at c12;obtain ⟨_,_,_,_,_,r0,r1,f0,f1,n0,n1,_,_,_,_,_,_⟩:=id G12.out;have c4:=G12.out.H.c4;have f4:=G12.out.H.fz 4 (by decide)
        have hhz:=G12.out.H.rows.base.2;have szz:=G12.out.sz;have nz1:w.heap.size+1≠E.hb:=by rcases G12.out.hbne with q | q <;> omega
        have nz2:w.heap.size+1+1≠E.hb:=by rcases G12.out.hbne with q | q <;> omega
        have nz3:=nz1.symm;have nz4:=nz2.symm;have szy:w.heap.size+1 < w9.heap.size:=by omega
        go_wp2_with fail
        refine bodyPost_ret (v:=.agg #[.int .i64 0,.int .i64 0]) (by simp [results,Try.results60,go_sem] <;> go_simp) rfl ?_
        exact rrq_below (G12.out.fin (by rw [hr0.out];exact ⟨rfl,rfl⟩)) (by exact Rd.byB)
end
end Rhq
end Go.Proofs.Ytncmhenfgbcihab
