/- Parts of the proof: Rv1. -/
import Derived.Test.YtncmhenfgbcihabGreatG06
import Derived.RegionTactic
import Derived.ChangeAlike
set_option linter.unusedSimpArgs false
set_option linter.unusedVariables false
set_option maxHeartbeats 8000000
namespace Go.Proofs.YtncmhenfgbcihabGreat
open Go.RowKit
namespace Rhw
open Num Rd D Run Mem HierW Hpw
section
variable {E:Ev}{w w':World}{L L':RL}{h h':Hp}{d:Nat}{s:Sv}{P:Pl}{m:Me}{fr:Sf}{vs:Value}
theorem name_w {G:World→Prop}{w:World}(R:World→Prop) (hR:R w) (h:∀ W,R W→G W):G w:=h w hR
theorem VS.mid {w:World}{X:Nat→Prop}{b o n cap i:Nat}{l:List Vl}(h:VS w X (.slice (some ⟨b,o,none⟩) n cap) l) (hi:i < l.length):VS w X (.slice (some ⟨b,o+i*2,none⟩) 1 (cap - i)) [l[i]]:=by
 obtain ⟨a,c,h1,h2,h3,h4⟩:=h
 simp only [Value.slice.injEq] at h1
 obtain ⟨rfl,rfl,rfl⟩:=h1
 refine ⟨_,_,rfl,by simp;omega,by omega,fun j hj=>?_⟩
 obtain ⟨b',o',e,hx,c1,c2⟩:=h4 i hi
 simp only [Option.some.injEq,Addr.mk.injEq,and_true] at e
 obtain ⟨rfl,rfl⟩:=e
 have:j=0:=by simpa using hj
 subst this
 exact ⟨_,_,rfl,hx,by simpa using c1,by simpa using c2⟩
theorem storeAt {w:World}{lb:Nat}{l:List Vl}(n:Nat) (hn:n=l.length) (H:Blk w lb (vcells l)) (hlb:lb < w.heap.size) (hP:Paired l) (k:Nat) (v:Vl) (hk:k+width v≤l.length) (h1000:l.length≤1000) :
  Calls Tryz.prog 60 #[.slice (some ⟨lb,0,none⟩) n n,.int .i64 k,.agg #[.int .i64 v.kind,.int .i64 v.n]] w fun e w'=>e=.returned (.tuple #[])∧Blk w' lb (vcells (Run.store l k v))∧Kp (· = lb) w w':=by
 subst hn;exact storeR H hlb hP k v hk h1000
def MB (w:World) (b:Nat) (vp vc vh:Value) (m:Me):Prop:=∀ j (hj:j < (mcells vp vc vh m).length),w.cell? ⟨b,j,none⟩=some (mcells vp vc vh m)[j]
def RunA (E:Ev) (L:RL) (P:Pl) (m:Me) (d n0:Nat) (W:World) (r:Res Vl) (wr:World):Prop :=
 ∃ L2 h2 fr vs g,n0≤h2.steps∧RH E wr L2 h2 (d+1) Sv.run∧Fr E wr L2 P m fr vs∧(HpOk E.f.classes E.input E.fuel h2∧SfOk m h2.objs.length fr∧fr.stk.length≤40)∧loop SM E.f E.input E.fuel g (d+1) m fr h2=r∧E.fuel < g+h2.steps∧Kp (KX E L P) W wr∧∀ k,own E L2 k→own E L k∨W.heap.size≤k
def RunB (E:Ev) (L:RL) (P:Pl) (m:Me) (d:Nat) (W:World) (r:Res Vl) (wr:World):Prop :=
 ∃ L2 h2 c,RH E wr L2 h2 (d+1) (Sv.ends c)∧r=.stop c h2∧Kp (KX E L P) W wr∧∀ k,own E L2 k→own E L k∨W.heap.size≤k
def stepsOf (E:Ev) (w:World):Nat:=match w.cell? ⟨E.hb,11,none⟩ with
 | some v=>(intOf v).toNat
 | none=>0
theorem steps_of (H:RH E w L h d s):stepsOf E w=h.steps:=by
 unfold stepsOf
 rw [H.c11]
 simp [intOf]
theorem finR {W w2:World}{L2:RL}{h2:Hp}{r:Res Vl}{b:Nat}{x y:Int}(KW:Kp (own E L) w W) (K:Kp (KX E L P) W w2) (N:∀ k,own E L2 k→own E L k∨W.heap.size≤k) (hc:w.heap.size≤P.cb) (hl:w.heap.size≤P.lb) (hb:w.heap.size≤b) (hbW:b < W.heap.size) (hEB:E.B≤w.heap.size) (hold:∀ k,own E L k→k < w.heap.size) (H:RH E w2 L2 h2 (d+1) s)
  (hs:match r with
   | .ok a h'=>s=Sv.run∧h'=h2∧x=a.kind∧y=a.n
   | .thrown o h'=>s=Sv.thr o∧h'=h2
   | .stop c h'=>s=Sv.ends c∧h'=h2):RRv E L d w r (.returned (.agg #[.int .i64 x,.int .i64 y])) (((w2.setCell ⟨E.hb,4,none⟩ (.int .i64 d)).setCell ⟨b,0,none⟩ (.int .i64 x)).setCell ⟨b,1,none⟩ (.int .i64 y)):=by
 have H3:=RH.set H 4 (by decide) (.int .i64 d) (h':=h2) (d':=d) (s':=s) rfl rfl (by simp [cellsR])
 have K3:Kp (own E L) w (w2.setCell ⟨E.hb,4,none⟩ (.int .i64 d)):=(KW.trans K (fun k hk=>by
  rcases hk with hk | hk | hk
  ·exact .inl hk
  ·exact .inr (by omega)
  ·exact .inr (by omega))).setCell (p:=⟨E.hb,4,none⟩) (.inl (.inl rfl)) _
 have N3:∀ k,own E L2 k→own E L k∨w.heap.size≤k:=fun k hk=>by
  rcases N k hk with q | q
  ·exact .inl q
  ·have:=KW.size;exact .inr (by omega)
 have nb:E.B≤b∧¬ own E L2 b:=⟨by omega,fun hk=>by
  rcases N b hk with q | q
  ·have:=hold b q;omega
  ·omega⟩
 have R2:RL2 E L d w (((w2.setCell ⟨E.hb,4,none⟩ (.int .i64 d)).setCell ⟨b,0,none⟩ (.int .i64 x)).setCell ⟨b,1,none⟩ (.int .i64 y)) h2 s:=⟨L2,kres2 K3 hb _ _,N3,H3.res2 nb _ _⟩
 refine ⟨x,y,rfl,?_⟩
 cases r with
 | ok a h'=>obtain ⟨rfl,rfl,rfl,rfl⟩:=hs;exact ⟨⟨rfl,rfl⟩,R2⟩
 | thrown o h'=>obtain ⟨rfl,rfl⟩:=hs;exact R2
 | stop c h'=>obtain ⟨rfl,rfl⟩:=hs;exact R2
theorem st20' {f:Fi}{input:List Int}{i:Ins}(hi:i.op=20):sstep f input m i fr h=s20 f.classes m fr h:=by
 obtain ⟨op,a,b,c,n,args⟩:=i
 simp only at hi
 subst hi
 exact st20
theorem rrv_below {r:Res Vl}{e:Ending}{w1 w2:World}(R:RRv E L d w r e w1) (hb:Below w1.heap.size w1 w2):RRv E L d w r e w2:=by
 obtain ⟨x,y,rfl,R⟩:=R
 refine ⟨x,y,rfl,?_⟩
 cases r with
 | ok a h'=>obtain ⟨h1,L',K,N,H⟩:=R;exact ⟨h1,L',kb K hb,N,H.below hb⟩
 | thrown o h'=>obtain ⟨L',K,N,H⟩:=R;exact ⟨L',kb K hb,N,H.below hb⟩
 | stop c h'=>obtain ⟨L',K,N,H⟩:=R;exact ⟨L',kb K hb,N,H.below hb⟩
theorem kxx {W W1 W2:World}{L2:RL}(K:Kp (KX E L P) W W1) (N:∀ k,own E L2 k→own E L k∨W.heap.size≤k) (K2:Kp (KX E L2 P) W1 W2):Kp (KX E L P) W W2:=K.trans K2 (fun k hk=>by
 rcases hk with hk | hk
 ·exact (N k hk).imp .inl id
 ·exact .inl (.inr hk))
theorem kxo {W W1 W2:World}{L2:RL}(K:Kp (KX E L P) W W1) (N:∀ k,own E L2 k→own E L k∨W.heap.size≤k) (K2:Kp (own E L2) W1 W2):Kp (KX E L P) W W2:=kxx K N (K2.mono fun _ h=>.inl h)
theorem nxx {W W1:World}{L2 L3:RL}(hs:W.heap.size≤W1.heap.size) (N:∀ k,own E L2 k→own E L k∨W.heap.size≤k) (N2:∀ k,own E L3 k→own E L2 k∨W1.heap.size≤k):∀ k,own E L3 k→own E L k∨W.heap.size≤k:=fun k hk=>by
 rcases N2 k hk with q | q
 ·exact N k q
 ·exact .inr (by omega)
theorem frNew (m:Me) (w2:World) (lb n:Nat) (loc:List Vl) (hB:Blk w2 lb (vcells loc)) (hn:loc.length=n) (hlb:lb < w2.heap.size) (vp vc vh:Value) (Z:Nat→Prop) (hlo:E.B≤lb) (hfar:∀ k,own E L k→k < lb) (hZ:∀ k,Z k→k < w2.heap.size) (T:TypeId) :
  Fr E (w2.alloc (.cells #[vp,.int .i64 m.ret.kind,.int .i64 m.ret.cls,.int .i64 m.stack,.int .i64 m.locals,.int .i64 m.regs,vc,vh,.slice (some ⟨lb,0,none⟩) n n,.slice none 0 0,.int .i64 0] T)) L ⟨w2.heap.size,lb,vp,vc,vh,Z⟩ m ⟨loc,[],0⟩ (.slice none 0 0):=by
 subst hn
 refine ⟨Blk.made w2 (fcells ⟨w2.heap.size,lb,vp,vc,vh,Z⟩ m ⟨loc,[],0⟩ (.slice none 0 0)) T,hB.alloc _,by simp;omega,VS.nil _ _,⟨by show E.B≤w2.heap.size;omega,hlo⟩,⟨fun hk=>by have:=hfar _ hk;simp only at this;omega,fun hk=>by have:=hfar _ hk;simp only at this;omega⟩,by show w2.heap.size≠lb;omega,fun k hk=>by have:=hZ k hk;simp;omega⟩
set_option maxRecDepth 100000 in
theorem runT (S:FiS E.f) (M:MeS E.f m) (H:RH E w L h d Sv.run){mv va:Value}(hmv:VMe w E.B mv m) (args:List Vl) (X:Nat→Prop) (ha:VS w X va args) (hX:∀ k,own E L k→X k) (hl:args.length=m.params.length) (hv:∀ v∈args,VtOk h.objs.length v) (hd:d < 20) (hc:allOf E.f.classes h args m.params=true) (hsz:size args≤m.locals.toNat) (r:Res Vl) (HO:HpOk E.f.classes E.input E.fuel h) (hm:m∈E.f.methods) (MO:MachOk SM SfOk E.f E.input E.fuel) (hfu:E.fuel≤60000) (hin:E.input.length≤1000) (g:Nat) (hg:E.fuel < g+h.steps) (hr:loop SM E.f E.input E.fuel g (d+1) m (senter m args) h=r) (HRun:∀ (h2:Hp) (g2:Nat),E.fuel < g2+h2.steps→h.steps < h2.steps→RunOk E (d+1) g2 h2) :
  Calls Tryz.prog 32 #[.pointer (some ⟨E.hb,0,none⟩),mv,va] w (RRv E L d w r):=by
 have HH:=Lib.hid H
 have hhb:=H.rows.base.2
 obtain ⟨vp,vc,vh,rfl,o1,hp,hco,hha⟩:=hmv
 obtain ⟨pa,pcap,rfl,p1,p2,_⟩:=id hp
 obtain ⟨ia,icap,rfl,p3,p4,_⟩:=id hco
 obtain ⟨xa,xcap,rfl,p5,p6,_⟩:=id hha
 have HP:=Lib.hid hp
 have HCO:=Lib.hid hco
 have HHA:=Lib.hid hha
 have HA:=Lib.hid ha
 have HC:=Lib.hid hc
 have HL:=Lib.hid hl
 have HV:=Lib.hid hv
 have hsz:=Lib.hid hsz
 have HV3:=Lib.hid (fun v hv'=>fun e=>((hv v hv').1.2.2.2 e).2)
 have hxx:=Lib.hid (hX _ (.inl rfl))
 have HX:=Lib.hid hX
 have hEB:E.B≤w.heap.size:=by have:=H.rows.base;omega
 replace HO:=Lib.hid HO
 replace hr:=Lib.hid hr
 replace HRun:=Lib.hid HRun
 replace hm:=Lib.hid hm
 replace MO:=Lib.hid MO
 clear H hp hco hha ha hc hl hv hX
 go_enter Tryz.func32,Tryz.ntmps32
 go_wp2_with (go_at_call 59;refine (enterT (HH.out.below (by exact Rd.byB)) S.may m (HP.out.mono mTy ((kpB (X:=fun _=>False) (w0:=w) (by exact Rd.byB)).below hEB (fun _ e=>e.elim)) (Nat.le_refl _)) args X (HA.out.next (kpB (X:=fun _=>False) (w0:=w) (by exact Rd.byB)) (fun _ _ e=>e.elim) (fun _ _ e=>e)) hxx.out HL.out HV3.out hd HC.out).mono ?_;rintro e w1 ⟨rfl,H1,K1⟩;have o10:=K1.cell (c:=w.heap.size) (o:=0) (v:=.slice pa m.params.length pcap) (by go_simp) (fun hk=>(fresh_b HH.out (Nat.le_refl _)).2 hk);have o11:=K1.cell (c:=w.heap.size) (o:=1) (v:=.int .i64 m.ret.kind) (by go_simp) (fun hk=>(fresh_b HH.out (Nat.le_refl _)).2 hk);have o12:=K1.cell (c:=w.heap.size) (o:=2) (v:=.int .i64 m.ret.cls) (by go_simp) (fun hk=>(fresh_b HH.out (Nat.le_refl _)).2 hk);have o13:=K1.cell (c:=w.heap.size) (o:=3) (v:=.int .i64 m.stack) (by go_simp) (fun hk=>(fresh_b HH.out (Nat.le_refl _)).2 hk);have o14:=K1.cell (c:=w.heap.size) (o:=4) (v:=.int .i64 m.locals) (by go_simp) (fun hk=>(fresh_b HH.out (Nat.le_refl _)).2 hk);have o15:=K1.cell (c:=w.heap.size) (o:=5) (v:=.int .i64 m.regs) (by go_simp) (fun hk=>(fresh_b HH.out (Nat.le_refl _)).2 hk);have o16:=K1.cell (c:=w.heap.size) (o:=6) (v:=.slice ia m.code.length icap) (by go_simp) (fun hk=>(fresh_b HH.out (Nat.le_refl _)).2 hk);have o17:=K1.cell (c:=w.heap.size) (o:=7) (v:=.slice xa m.handlers.length xcap) (by go_simp) (fun hk=>(fresh_b HH.out (Nat.le_refl _)).2 hk);have r0:=K1.cell (c:=w.heap.size+1) (o:=0) (v:=.int .i64 0) (by go_simp) (fun hk=>(fresh_b HH.out (by omega)).2 hk);have r1:=K1.cell (c:=w.heap.size+1) (o:=1) (v:=.int .i64 0) (by go_simp) (fun hk=>(fresh_b HH.out (by omega)).2 hk);have f0:=K1.frz (c:=w.heap.size+1) (o:=0) (b:=false) (by go_simp) (by simp) (fun hk=>(fresh_b HH.out (by omega)).2 hk);have f1:=K1.frz (c:=w.heap.size+1) (o:=1) (b:=false) (by go_simp) (by simp) (fun hk=>(fresh_b HH.out (by omega)).2 hk);have sz1:=K1.size;have sz1':w.heap.size+1 < w1.heap.size:=(by simp at sz1;omega);replace H1:=Lib.hid H1;replace K1:=Lib.hid K1)
 have hlb:=M.locals
 have hml:((m.locals.toNat:Nat):Int)=m.locals:=by omega
 obtain ⟨w2,hrun,hblk,hbel,hlt2⟩:=mkVals m.locals.toNat (by omega) w1.drew
 rw [hml] at hrun
 have sz2:=hbel.size
 have B2:=Lib.hid hblk
 have BL2:=Lib.hid hbel
 have p10:=kept BL2.out (by show _ < w1.heap.size;omega) o10
 have p11:=kept BL2.out (by show _ < w1.heap.size;omega) o11
 have p12:=kept BL2.out (by show _ < w1.heap.size;omega) o12
 have p13:=kept BL2.out (by show _ < w1.heap.size;omega) o13
 have p14:=kept BL2.out (by show _ < w1.heap.size;omega) o14
 have p15:=kept BL2.out (by show _ < w1.heap.size;omega) o15
 have p16:=kept BL2.out (by show _ < w1.heap.size;omega) o16
 have p17:=kept BL2.out (by show _ < w1.heap.size;omega) o17
 clear hblk hbel
 go_region
 refine name_w (fun W=>Kp (own E L) w W∧w.heap.size+1 < W.heap.size∧Hid (RH E W L h (d+1) Sv.run)∧(∃ P:Pl,P.cb=w2.heap.size∧P.lb=w1.heap.size∧Hid (∀ k,P.Z k↔(k=w.heap.size∨k=w.heap.size+1))∧w.heap.size+1 < P.lb∧w.heap.size+1 < P.cb∧Hid (Fr E W L P m ⟨List.replicate m.locals.toNat Vl.nil,[],0⟩ (.slice none 0 0)))∧Hid (VS W (fun k=>X k∨w.heap.size≤k) va args)∧(W.cell? ⟨w.heap.size+1,0,none⟩=some (.int .i64 0)∧W.cell? ⟨w.heap.size+1,1,none⟩=some (.int .i64 0)∧W.frozen? ⟨w.heap.size+1,0,none⟩=false∧W.frozen? ⟨w.heap.size+1,1,none⟩=false∧Hid (MB W w.heap.size (.slice pa m.params.length pcap) (.slice ia m.code.length icap) (.slice xa m.handlers.length xcap) m))) ?_ ?_
 ·have hb2:=BL2.out
  have hbA:Below w2.heap.size w2 (w2.alloc (.cells #[.slice pa m.params.length pcap,.int .i64 m.ret.kind,.int .i64 m.ret.cls,.int .i64 m.stack,.int .i64 m.locals,.int .i64 m.regs,.slice ia m.code.length icap,.slice xa m.handlers.length xcap,.slice (some ⟨w1.heap.size,0,none⟩) m.locals.toNat m.locals.toNat,.slice none 0 0,.int .i64 0] 115)):=by exact Rd.byB
  have e1:w1.drew.heap.size=w1.heap.size:=rfl
  have K2:=kb (kb (kb ((kpB (X:=own E L) (w0:=w) (by exact Rd.byB)).trans K1.out (fun _ h=>.inl h)) (w2:=w1.drew) (by exact Rd.byB)) hb2) hbA
  have H2:=((H1.out.below (w':=w1.drew) (by exact Rd.byB)).below hb2).below hbA
  have hlt2':w1.heap.size < w2.heap.size:=hlt2
  have cc:∀ (c o:Nat) (v:Value),c < w1.heap.size→w1.cell? ⟨c,o,none⟩=some v→(w2.alloc (.cells #[.slice pa m.params.length pcap,.int .i64 m.ret.kind,.int .i64 m.ret.cls,.int .i64 m.stack,.int .i64 m.locals,.int .i64 m.regs,.slice ia m.code.length icap,.slice xa m.handlers.length xcap,.slice (some ⟨w1.heap.size,0,none⟩) m.locals.toNat m.locals.toNat,.slice none 0 0,.int .i64 0] 115)).cell? ⟨c,o,none⟩=some v:=fun c o v hc h=>kept hbA (Nat.lt_trans hc hlt2') (kept hb2 hc h)
  have cf:∀ (c o:Nat) (v:Bool),c < w1.heap.size→w1.frozen? ⟨c,o,none⟩=v→(w2.alloc (.cells #[.slice pa m.params.length pcap,.int .i64 m.ret.kind,.int .i64 m.ret.cls,.int .i64 m.stack,.int .i64 m.locals,.int .i64 m.regs,.slice ia m.code.length icap,.slice xa m.handlers.length xcap,.slice (some ⟨w1.heap.size,0,none⟩) m.locals.toNat m.locals.toNat,.slice none 0 0,.int .i64 0] 115)).frozen? ⟨c,o,none⟩=v:=fun c o v hc h=>(kb (Kp.of_below (X:=fun _=>False) hb2 (Nat.le_refl _)) hbA).frz h hc (fun e=>e)
  refine ⟨K2,by simp;omega,Lib.hid H2,⟨⟨w2.heap.size,w1.heap.size,.slice pa m.params.length pcap,.slice ia m.code.length icap,.slice xa m.handlers.length xcap,fun k=>k=w.heap.size∨k=w.heap.size+1⟩,rfl,rfl,Lib.hid (fun k=>Iff.rfl),by show w.heap.size+1 < w1.heap.size;omega,by show w.heap.size+1 < w2.heap.size;omega,Lib.hid (frNew m w2 w1.heap.size _ _ B2.out (by simp) hlt2' _ _ _ _ (by omega) (fun k hk=>by have:=(own_lo HH.out.rows hk).2;omega) (fun k hk=>by rcases hk with hk | hk <;> omega) _)⟩,Lib.hid (HA.out.next K2 (fun b _ hb=>HX.out _ hb) (fun b hb hx=>?_)),cc _ _ _ (by omega) r0,cc _ _ _ (by omega) r1,cf _ _ _ (by omega) f0,cf _ _ _ (by omega) f1,Lib.hid ?_⟩
  ·rcases hx with hx | hx
   ·exact hx
   ·omega
  ·intro j hj
   have hj8:j < 8:=by simpa [mcells] using hj
   refine cc _ _ _ (by omega) ?_
   have:j=0∨j=1∨j=2∨j=3∨j=4∨j=5∨j=6∨j=7:=by omega
   rcases this with rfl | rfl | rfl | rfl | rfl | rfl | rfl | rfl <;> assumption
 clear o10 o11 o12 o13 o14 o15 o16 o17 p10 p11 p12 p13 p14 p15 p16 p17 r0 r1 f0 f1
 rintro W ⟨KW,hszW,HW,⟨P,hPc,hPl,hPZ,hlz,hcz,FW⟩,VW,r0,r1,f0,f1,MW⟩
 rw [← hPc,← hPl]
 replace KW:=Lib.hid KW
 clear hPc hPl H1 K1 B2 BL2 sz2 hlt2 hrun sz1 sz1' w2 w1
 have hst:=Lib.hid (fun n (hn:n≤args.length)=>(stores_ok (n:=h.objs.length) (args.take n) (List.replicate m.locals.toNat Vl.nil) 0 (fresh_ok _ _) (fun v hv=>HV.out v (List.mem_of_mem_take hv)) (by have:=size_take_le (args:=args) n;have:=hsz.out;simp;omega)))
 go_wp2
 go_loopw [8,9] (fun a i wr=>∃ n:Nat,i=.int .i64 n∧a=.int .i64 (size (args.take n):Nat)∧n≤args.length∧Hid (Kp (· = P.lb) W wr)∧Hid (Fr E wr L P m ⟨stores (List.replicate m.locals.toNat Vl.nil) 0 (args.take n),[],0⟩ (.slice none 0 0))) (fun _ i _=>args.length - (intOf i).toNat)
 case atStart=>exact ⟨0,rfl,by simp [size],Nat.zero_le _,Lib.hid (Kp.refl _ _),by simpa [stores] using FW⟩
 case round =>
  obtain ⟨n,rfl,rfl,hn,KL,FL⟩:=hrel
  by_cases hlt:n < args.length
  ·obtain ⟨ab,ao,acap,rfl,hc1,hc2,hab,hnx,hel⟩:=VW.out.form (by omega)
   have hn1:(n:Int) < args.length:=by omega
   obtain ⟨z0,z1⟩:=hel n hlt
   have hane:ab≠P.lb:=fun e=>hnx (.inr (by rw [e];omega))
   have y0:=KL.out.cell z0 (fun e=>hane e)
   have y1:=KL.out.cell z1 (fun e=>hane e)
   have habr:ab < wr.heap.size:=Nat.lt_of_lt_of_le hab KL.out.size
   have VR:=Lib.hid (VW.out.next (X':=fun k=>k=P.lb) KL.out (fun b _ e=>.inr (by rw [e];omega)) (fun b _ e=>.inr (by rw [e];omega)))
   obtain ⟨v,hv⟩:=at_of hlt
   rw [hv.out] at y0 y1
   have hv':=Lib.hid hv
   have c8:=FL.out.c8
   have ln:(stores (List.replicate m.locals.toNat Vl.nil) 0 (args.take n)).length=m.locals.toNat:=by rw [(hst.out n hn).2];simp
   simp only [ln] at c8
   have hcb:=FL.out.cbw
   have hlb:=FL.out.lbw
   have LN:=Lib.hid ln
   have FB:=Lib.hid FL.out.loc
   clear hel z0 z1 ln
   go_wp2
   go_still_tail 9,(by kernel_rfl)
   have hfit:size (args.take n)+width v≤m.locals.toNat:=by
    have h1:=size_take hlt
    have h2:=size_take_le (args:=args) (n+1)
    have h3:=hsz.out
    rw [hv'.out] at h1
    omega
   have HF:=Lib.hid hfit
   have hml:m.locals.toNat≤1000:=by omega
   go_wp2_with (first | (go_at_call 60;refine (storeAt (l:=stores (List.replicate m.locals.toNat Vl.nil) 0 (args.take n)) _ LN.out.symm (FB.out.drew) hlb (hst.out n hn).1.pair _ v (by rw [LN.out];exact HF.out) (by rw [LN.out];exact hml)).mono ?_;rintro e w3 ⟨rfl,B3,K3⟩;replace B3:=Lib.hid B3;replace K3:=Lib.hid K3) | (go_at_call 61;refine (sizeR (l:=[v]) (X:=fun k=>k=P.lb) (by have V:=VS.mid VR.out hlt;rw [hv'.out] at V;exact V.next ((Kp.refl (fun k=>k=P.lb) wr).drew.trans K3.out (fun _ h=>.inl h)) (fun _ _ h=>h) (fun _ _ h=>h)) (by simp)).mono ?_;rintro e w4 ⟨rfl,rfl⟩))
   refine ⟨⟨n+1,by simp,?_,hlt,?_,?_⟩,by simp only [intOf];omega⟩
   ·have h1:=size_take hlt
    rw [hv'.out] at h1
    have h2:wrap64 ((size (args.take n):Int)+(size [v]:Nat))=((size (args.take n)+size [v]:Nat):Int):=by
     have h3:size [v]=width v:=by simp [size]
     have:=HF.out
     rw [← Int.natCast_add]
     exact wrap64_id (by unfold Ok;rw [h3];omega)
    rw [h2,h1];simp [size]
   ·exact Lib.hid (KL.out.trans ((Kp.refl (fun k=>k=P.lb) wr).drew.trans K3.out (fun _ h=>.inl h)) (fun _ h=>.inl h))
   ·have e3:stores (List.replicate m.locals.toNat Vl.nil) 0 (args.take (n+1))=Run.store (stores (List.replicate m.locals.toNat Vl.nil) 0 (args.take n)) (size (args.take n)) v:=by rw [stores_take hlt,hv'.out]
    rw [e3]
    exact Lib.hid (FL.out.stores (l:=Run.store (stores (List.replicate m.locals.toNat Vl.nil) 0 (args.take n)) (size (args.take n)) v) (store_len _ _ _) B3.out ((Kp.refl (fun k=>k=P.lb) wr).drew.trans K3.out (fun _ h=>.inl h)))
  ·have hn1:¬ (n:Int) < args.length:=by omega
   obtain rfl:n=args.length:=by omega
   rw [List.take_length] at FL
   obtain ⟨ax,acap,rfl,hc1,hc2⟩:=VW.out.len
   have hold:=Lib.hid (fun k (hk:own E L k)=>(own_lo HH.out.rows hk).2)
   have hKX:=Lib.hid (fun (b:Nat) (hb:b < E.B∨b=w.heap.size∨b=w.heap.size+1)=>(show ¬ KX E L P b from fun hk=>by
    have q1:=FW.out.lo
    rcases hk with hk | hk | hk
    ·have q2:=own_lo HH.out.rows hk;omega
    ·omega
    ·omega))
   have hres:=Lib.hid (fun (w5:World) (K5:Kp (KX E L P) W w5)=>(show w5.cell? ⟨w.heap.size+1,0,none⟩=some (.int .i64 0)∧w5.cell? ⟨w.heap.size+1,1,none⟩=some (.int .i64 0)∧w5.frozen? ⟨w.heap.size+1,0,none⟩=false∧w5.frozen? ⟨w.heap.size+1,1,none⟩=false from
    ⟨K5.cell r0 (hKX.out _ (.inr (.inr rfl))),K5.cell r1 (hKX.out _ (.inr (.inr rfl))),K5.frz f0 hszW (hKX.out _ (.inr (.inr rfl))),K5.frz f1 hszW (hKX.out _ (.inr (.inr rfl)))⟩))
   have hmb:=Lib.hid (fun (w5:World) (K5:Kp (KX E L P) W w5)=>(show MB w5 w.heap.size (.slice pa m.params.length pcap) (.slice ia m.code.length icap) (.slice xa m.handlers.length xcap) m from
    fun j hj=>K5.cell (MW.out j hj) (hKX.out _ (.inr (.inl rfl)))))
   have hcell:=Lib.hid (fun (w5:World) (K5:Kp (KX E L P) W w5) (b o:Nat) (v:Value) (hb:b < E.B) (hc:w.cell? ⟨b,o,none⟩=some v)=>(show w5.cell? ⟨b,o,none⟩=some v from
    K5.cell (KW.out.cell hc (fun hk=>by have:=own_lo HH.out.rows hk;omega)) (hKX.out _ (.inl hb))))
   have hA:Hid (RunA E L P m d h.steps W r wr):=Lib.hid ⟨L,h,senter m args,.slice none 0 0,g,Nat.le_refl _,HW.out.frame FW.out (KL.out.mono (fun _ e=>.inr e)),FL.out,⟨HO.out,MO.out.enter m hm.out _ args HV.out HL.out (fun i hi=>allOf_kind args _ HC.out i hi (by rw [← HL.out];exact hi)),by simp [senter]⟩,hr.out,hg,KL.out.mono (fun _ e=>.inr (.inr e)),fun k hk=>.inl hk⟩
   have hbel:=Lib.hid (fun (w5:World) (K5:Kp (KX E L P) W w5)=>(show Below E.B w w5 from
    ((KW.out.mono (Y:=fun k=>E.B≤k) (fun k hk=>(own_lo HH.out.rows hk).1)).trans K5 (fun k hk=>.inl (by
     rcases hk with hk | hk | hk
     ·exact (own_lo HH.out.rows hk).1
     ·omega
     ·omega))).below hEB (fun k hk=>hk)))
   clear hst FL KL r0 r1 f0 f1 HW FW VW HO hr hg
   go_wp2
   go_loopw [13] (fun _ w5=>RunA E L P m d h.steps W r w5∨RunB E L P m d W r w5) (fun _ w5=>E.fuel - stepsOf E w5)
   case atStart=>exact .inl hA.out
   case round =>
    clear hA
    rcases hrel with hrel | hrel
    ·obtain ⟨L2,h2,fr,vs,g2,hn5,H5,F5,⟨HO5,SO5,hs5⟩,hr5,hg5,K5,N5⟩:=hrel
     have H5':=Lib.hid H5
     replace F5:=Lib.hid F5
     replace HO5:=Lib.hid HO5
     replace SO5:=Lib.hid SO5
     replace hr5:=Lib.hid hr5
     replace K5:=Lib.hid K5
     replace N5:=Lib.hid N5
     clear H5
     by_cases q1:E.fuel≤h2.steps
     ·have hr0:Hid (r=.stop 0 h2):=by
       show r=_
       rw [← hr5.out]
       cases g2 with
       | zero=>rfl
       | succ g2=>rw [loop,if_pos q1]
      clear hr5
      go_wp2_with (go_at_call 62;refine (stepFuel H5'.out q1).mono ?_;rintro e w6 ⟨rfl,H6,K6⟩;have c4:=H6.c4;have f4:=H6.fz 4 (by decide);replace K6:=kxo K5.out N5.out K6;obtain ⟨r0,r1,f0,f1⟩:=hres.out _ K6;replace K6:=Lib.hid K6;replace H6:=Lib.hid H6)
      refine bodyPost_ret (v:=.agg #[.int .i64 0,.int .i64 0]) (by simp [results,Tryz.results32,go_sem] <;> go_simp) rfl ?_
      exact finR KW.out K6.out N5.out (by omega) (by omega) (by omega) hszW hEB hold.out H6.out (by rw [hr0.out];exact ⟨rfl,rfl⟩)
     ·obtain ⟨g3,rfl⟩:∃ g3,g2=g3+1:=⟨g2 - 1,by omega⟩
      have q1':h2.steps < E.fuel:=by omega
      go_wp2_with (go_at_call 62;refine (stepOk H5'.out q1' hfu).mono ?_;rintro e w6 ⟨rfl,H6,K6⟩;have F6:=Lib.hid (F5.out.heap K6 same_own);replace K6:=Lib.hid (kxo K5.out N5.out K6);replace H6:=Lib.hid H6)
      have c10:=F6.out.c10
      have m6:w6.cell? ⟨w.heap.size,6,none⟩=some (.slice ia m.code.length icap):=hmb.out w6 K6.out 6 (by simp [mcells])
      obtain ⟨ci,hci⟩:∃ ci,Hid (m.code[fr.at_]? = ci):=⟨_,rfl⟩
      cases ci with
      | none =>
       have hge:¬ (fr.at_:Int) < m.code.length:=by have:=List.getElem?_eq_none_iff.1 hci.out;omega
       have hge2:¬ fr.at_ < m.code.length:=by omega
       have hr0:Hid (r=.stop 6 (stepped h2)):=by
        show r=_
        rw [← hr5.out,loop,if_neg q1]
        have e1:m.code[SM.at_ fr]? = none:=hci.out
        rw [e1];rfl
       clear hr5
       go_still_tail 9,(by kernel_rfl)
       have H6d:=Lib.hid (H6.out.below (w':=w6.drew) (by exact Rd.byB))
       obtain ⟨A1,A2⟩:=ended H6d.out rfl 6 (Below.refl _ _)
       replace A2:=kxo (kb K6.out (w2:=w6.drew) (by exact Rd.byB)) N5.out A2
       replace A1:=Lib.hid A1
       replace A2:=Lib.hid A2
       go_wp2_with (go_at_call 63;refine (mustF H6d.out rfl).mono ?_;rintro e w7 ⟨rfl,hw7⟩;rw [hw7] at A1 A2;clear hw7;have c4:=A1.out.c4;have f4:=A1.out.fz 4 (by decide);obtain ⟨r0,r1,f0,f1⟩:=hres.out _ A2.out)
       refine bodyPost_ret (v:=.agg #[.int .i64 0,.int .i64 0]) (by simp [results,Tryz.results32,go_sem] <;> go_simp) rfl ?_
       exact finR KW.out A2.out N5.out (by omega) (by omega) (by omega) hszW hEB hold.out A1.out (by rw [hr0.out];exact ⟨rfl,rfl⟩)
      | some i =>
       have hlt:fr.at_ < m.code.length:=(List.getElem?_eq_some_iff.1 hci.out).1
       have hlt1:(fr.at_:Int) < m.code.length:=by omega
       have hat4:=M.code.2
       go_still_tail 9,(by kernel_rfl)
       go_wp2_with (go_at_call 63;refine (mustT (H6.out.below (w':=w6.drew) (by exact Rd.byB)) rfl).mono ?_;rintro e w7 ⟨rfl,rfl⟩)
       have H7:=Lib.hid (H6.out.below (w':=w6.drew) (by exact Rd.byB))
       have F7:=Lib.hid (F6.out.below (w':=w6.drew) (by exact Rd.byB))
       have K7:=Lib.hid (kb K6.out (w2:=w6.drew) (by exact Rd.byB))
       clear H6 F6 K6 c10 m6
       generalize w6.drew=w7 at H7 F7 K7 ⊢
       obtain ⟨ia',icap',hs,_,_,hel⟩:=HCO.out
       simp only [Value.slice.injEq,true_and] at hs
       obtain ⟨rfl,rfl⟩:=hs
       obtain ⟨ib,io,rfl,hib,j0,j1,j2,j3,j4,iok,va5,j5,ax5,acap5,rfl,_⟩:=hel fr.at_ hlt
       rw [(List.getElem?_eq_some_iff.1 hci.out).2] at j0 j1 j2 j3 j4
       replace j0:=hcell.out w7 K7.out _ _ _ hib j0
       replace j1:=hcell.out w7 K7.out _ _ _ hib j1
       replace j2:=hcell.out w7 K7.out _ _ _ hib j2
       replace j3:=hcell.out w7 K7.out _ _ _ hib j3
       replace j4:=hcell.out w7 K7.out _ _ _ hib j4
       replace j5:=hcell.out w7 K7.out _ _ _ hib j5
       have c10:=F7.out.c10
       have cbw:=F7.out.cbw
       have m6:w7.cell? ⟨w.heap.size,6,none⟩=some (.slice (some ⟨ib,io,none⟩) m.code.length icap):=hmb.out w7 K7.out 6 (by simp [mcells])
       have l1:w.heap.size < w7.heap.size:=by have:=K7.out.size;omega
       have l2:ib < w7.heap.size:=by omega
       clear hel
       go_region
       refine name_w (fun W8=>Hid (RH E W8 L2 (stepped h2) (d+1) Sv.run)∧Hid (Fr E W8 L2 P m fr vs)∧Hid (Kp (KX E L P) W W8)∧w7.heap.size < W8.heap.size∧(W8.cell? ⟨w7.heap.size,0,none⟩=some (.int .i64 i.op)∧W8.cell? ⟨w7.heap.size,1,none⟩=some (.int .i64 i.a)∧W8.cell? ⟨w7.heap.size,2,none⟩=some (.int .i64 i.b)∧W8.cell? ⟨w7.heap.size,3,none⟩=some (.int .i64 i.c)∧W8.cell? ⟨w7.heap.size,4,none⟩=some (.int .i64 i.n)∧W8.cell? ⟨w7.heap.size,5,none⟩=some (.slice ax5 m.code[fr.at_].args.length acap5))∧Hid (W.heap.size≤w7.heap.size)) ?_ ?_
       ·have hb8:Below w7.heap.size w7 (w7.alloc (.cells #[.int .i64 i.op,.int .i64 i.a,.int .i64 i.b,.int .i64 i.c,.int .i64 i.n,.slice ax5 m.code[fr.at_].args.length acap5] 66)).drew:=by exact Rd.byB
        exact ⟨Lib.hid (H7.out.below hb8),Lib.hid (F7.out.below hb8),Lib.hid (kb K7.out hb8),by simp,⟨by go_simp,by go_simp,by go_simp,by go_simp,by go_simp,by go_simp⟩,Lib.hid K7.out.size⟩
       rintro W8 ⟨H8,F8,K8,hs8,⟨y0,y1,y2,y3,y4,y5⟩,hW7⟩
       clear H7 F7 K7 j0 j1 j2 j3 j4 j5 c10 m6 l2
       have l3:w.heap.size < W8.heap.size:=by omega
       have HO8:=Lib.hid (step_hp HO5.out q1')
       have hmem:i∈m.code:=List.mem_of_getElem? hci.out
       have hR:=Lib.hid (loop_actS (f:=E.f) (input:=E.input) (g:=g3) (d:=d+1) q1' hci.out M.stack.2 hs5)
       rw [hr5.out] at hR
       by_cases q20:i.op=20
       ·have hS:Hid (r=roundS E.f E.input E.fuel g3 (d+1) m fr (s20 E.f.classes m fr (stepped h2))):=by
         have e1:=hR.out
         rw [actS_eq (by rw [q20];decide),st20' q20] at e1
         exact e1
        have q20b:(i.op==20)=true:=by simpa using q20
        clear hR
        have m1:W8.cell? ⟨w.heap.size,1,none⟩=some (.int .i64 m.ret.kind):=hmb.out W8 K8.out 1 (by simp [mcells])
        have hhb8:E.hb < W8.heap.size:=H8.out.rows.base.2
        have l4:w.heap.size+1 < W8.heap.size:=by have:=K8.out.size;omega
        have hsz8:W.heap.size≤W8.heap.size:=K8.out.size
        by_cases qk:m.ret.kind=0
        ·have hr0:Hid (r=.ok Vl.nil (stepped h2)):=by
          show r=_
          rw [hS.out];unfold s20;rw [if_pos qk];rfl
         have c4:=H8.out.c4
         have f4:=H8.out.fz 4 (by decide)
         obtain ⟨r0,r1,f0,f1⟩:=hres.out _ K8.out
         have qkb:(m.ret.kind != 0)=false:=by simpa using qk
         clear hS
         go_wp2
         refine bodyPost_ret (v:=.agg #[.int .i64 0,.int .i64 0]) (by simp [results,Tryz.results32,go_sem] <;> go_simp) rfl ?_
         exact rrv_below (finR KW.out K8.out N5.out (by omega) (by omega) (by omega) hszW hEB hold.out H8.out (by rw [hr0.out];exact ⟨rfl,rfl,rfl,rfl⟩)) (by exact Rd.byB)
        ·have qkb:(m.ret.kind != 0)=true:=by simpa using qk
         have nx:¬ KX E L2 P W8.heap.size:=fun hk=>by
          rcases hk with hk | hk | hk
          ·exact (fresh_b H8.out (Nat.le_refl _)).2 hk
          ·have:=F8.out.cbw;omega
          ·have:=F8.out.lbw;omega
         have nx2:=fresh_b H8.out (Nat.le_refl W8.heap.size)
         replace nx:=Lib.hid nx
         replace nx2:=Lib.hid nx2
         have hcb8:=F8.out.cbw
         by_cases hne:fr.stk=[]
         ·have hr0:Hid (r=.stop 6 (stepped h2)):=by
           show r=_
           rw [hS.out];unfold s20;rw [if_neg qk];unfold pop1;rw [if_pos hne];rfl
          clear hS
          go_wp2_with (first | (go_at_call 64;refine (take1S (H8.out.below (by exact Rd.byB)) (F8.out.below (by exact Rd.byB)) hne).mono ?_;rintro e w9 ⟨vt,vs9,rfl,V9,F9,H9,K9⟩;have b0:=K9.cell (c:=W8.heap.size) (o:=0) (v:=.int .i64 0) (by go_simp) nx.out;have b1:=K9.cell (c:=W8.heap.size) (o:=1) (v:=.int .i64 0) (by go_simp) nx.out;have g0:=K9.frz (c:=W8.heap.size) (o:=0) (b:=false) (by go_simp) (by simp) nx.out;have g1:=K9.frz (c:=W8.heap.size) (o:=1) (b:=false) (by go_simp) (by simp) nx.out;obtain ⟨vb,vo,vcap,rfl,v1,v2,v3,v4,v5,v6⟩:=VS.one V9;have c12:w9.cell? ⟨E.hb,12,none⟩=some (.bool true):=H9.c12;have c4:=H9.c4;have f4:=H9.fz 4 (by decide);have hsz9:W8.heap.size < w9.heap.size:=(by have:=K9.size;simp at this;omega);have hhb9:=H9.rows.base.2;have K9':=kxx (kb K8.out (by exact Rd.byB)) N5.out K9;clear K9;obtain ⟨r0,r1,f0,f1⟩:=hres.out _ K9';replace K9':=Lib.hid K9';replace V9:=Lib.hid V9;replace F9:=Lib.hid F9;replace H9:=Lib.hid H9) | (go_at_call 63;refine (mustO (H9.out.res2 nx2.out _ _) rfl _).mono ?_;rintro e w10 ⟨rfl,rfl⟩))
          refine bodyPost_ret (v:=.agg #[.int .i64 Vl.nil.kind,.int .i64 Vl.nil.n]) (by simp [results,Tryz.results32,go_sem] <;> go_simp) rfl ?_
          exact finR KW.out (kres2 K9'.out hsz8 _ _) N5.out (by omega) (by omega) (by omega) hszW hEB hold.out (H9.out.res2 nx2.out _ _) (by rw [hr0.out];exact ⟨rfl,rfl⟩)
         ·obtain ⟨p,hp⟩:∃ p,Hid (ofT E.f.classes (stepped h2) (top fr.stk) m.ret=p):=⟨_,rfl⟩
          have hr0:Hid (r=if p=true then .ok (top fr.stk) (stepped h2) else .stop 6 (stepped h2)):=by
           show r=_
           rw [hS.out];unfold s20;rw [if_neg qk];unfold pop1;rw [if_neg hne];simp only [hp.out]
           cases p <;> rfl
          clear hS
          cases p with
          | true =>
           go_wp2_with (first | (go_at_call 64;refine (take1R (H8.out.below (by exact Rd.byB)) (F8.out.below (by exact Rd.byB)) hne (by omega)).mono ?_;rintro e w9 ⟨vt,vs9,rfl,V9,F9,H9,K9⟩;have b0:=K9.cell (c:=W8.heap.size) (o:=0) (v:=.int .i64 0) (by go_simp) nx.out;have b1:=K9.cell (c:=W8.heap.size) (o:=1) (v:=.int .i64 0) (by go_simp) nx.out;have g0:=K9.frz (c:=W8.heap.size) (o:=0) (b:=false) (by go_simp) (by simp) nx.out;have g1:=K9.frz (c:=W8.heap.size) (o:=1) (b:=false) (by go_simp) (by simp) nx.out;obtain ⟨vb,vo,vcap,rfl,v1,v2,v3,v4,v5,v6⟩:=VS.one V9;have c12:w9.cell? ⟨E.hb,12,none⟩=some (.bool false):=H9.c12;have hsz9:W8.heap.size < w9.heap.size:=(by have:=K9.size;simp at this;omega);have hhb9:=H9.rows.base.2;have K9':=kxx (kb K8.out (by exact Rd.byB)) N5.out K9;clear K9;have m1:w9.cell? ⟨w.heap.size,1,none⟩=some (.int .i64 m.ret.kind):=hmb.out w9 K9' 1 (by simp [mcells]);have m2:w9.cell? ⟨w.heap.size,2,none⟩=some (.int .i64 m.ret.cls):=hmb.out w9 K9' 2 (by simp [mcells]);have hne1:W8.heap.size≠E.hb:=(by omega);have hne2:=hne1.symm;have hne3:W8.heap.size≠w.heap.size:=(by omega);have hne4:=hne3.symm;replace K9':=Lib.hid K9';replace V9:=Lib.hid V9;replace F9:=Lib.hid F9;replace H9:=Lib.hid H9) | (go_at_call 65;refine (ofV (H9.out.res2 nx2.out _ _) S.may (top fr.stk) m.ret _ hp.out (fun e=>((SO5.out.stk _ (top_mem hne)).1.2.2.2 e).2)).mono ?_;rintro e w10 ⟨rfl,hb10⟩;have z0:w10.cell? ⟨W8.heap.size,0,none⟩=some (.int .i64 (top fr.stk).kind):=kept hb10 (by simp;omega) (by go_simp);have z1:w10.cell? ⟨W8.heap.size,1,none⟩=some (.int .i64 (top fr.stk).n):=kept hb10 (by simp;omega) (by go_simp);have H10:=(H9.out.res2 nx2.out _ _).below hb10;have K10:=kb (kres2 K9'.out hsz8 _ _) hb10;have hhb10:=H10.rows.base.2;clear hb10;replace H10:=Lib.hid H10;replace K10:=Lib.hid K10) | (go_at_call 63;refine (mustT H10.out rfl).mono ?_;rintro e w11 ⟨rfl,rfl⟩;have c4:=H10.out.c4;have f4:=H10.out.fz 4 (by decide);obtain ⟨r0,r1,f0,f1⟩:=hres.out _ K10.out))
           refine bodyPost_ret (v:=.agg #[.int .i64 (top fr.stk).kind,.int .i64 (top fr.stk).n]) (by simp [results,Tryz.results32,go_sem] <;> go_simp) rfl ?_
           exact finR KW.out K10.out N5.out (by omega) (by omega) (by omega) hszW hEB hold.out H10.out (by rw [hr0.out];exact ⟨rfl,rfl,rfl,rfl⟩)
          | false =>
           go_wp2_with (first | (go_at_call 64;refine (take1R (H8.out.below (by exact Rd.byB)) (F8.out.below (by exact Rd.byB)) hne (by omega)).mono ?_;rintro e w9 ⟨vt,vs9,rfl,V9,F9,H9,K9⟩;have b0:=K9.cell (c:=W8.heap.size) (o:=0) (v:=.int .i64 0) (by go_simp) nx.out;have b1:=K9.cell (c:=W8.heap.size) (o:=1) (v:=.int .i64 0) (by go_simp) nx.out;have g0:=K9.frz (c:=W8.heap.size) (o:=0) (b:=false) (by go_simp) (by simp) nx.out;have g1:=K9.frz (c:=W8.heap.size) (o:=1) (b:=false) (by go_simp) (by simp) nx.out;obtain ⟨vb,vo,vcap,rfl,v1,v2,v3,v4,v5,v6⟩:=VS.one V9;have c12:w9.cell? ⟨E.hb,12,none⟩=some (.bool false):=H9.c12;have hsz9:W8.heap.size < w9.heap.size:=(by have:=K9.size;simp at this;omega);have hhb9:=H9.rows.base.2;have K9':=kxx (kb K8.out (by exact Rd.byB)) N5.out K9;clear K9;have m1:w9.cell? ⟨w.heap.size,1,none⟩=some (.int .i64 m.ret.kind):=hmb.out w9 K9' 1 (by simp [mcells]);have m2:w9.cell? ⟨w.heap.size,2,none⟩=some (.int .i64 m.ret.cls):=hmb.out w9 K9' 2 (by simp [mcells]);have hne1:W8.heap.size≠E.hb:=(by omega);have hne2:=hne1.symm;have hne3:W8.heap.size≠w.heap.size:=(by omega);have hne4:=hne3.symm;replace K9':=Lib.hid K9';replace V9:=Lib.hid V9;replace F9:=Lib.hid F9;replace H9:=Lib.hid H9) | (go_at_call 65;refine (ofV (H9.out.res2 nx2.out _ _) S.may (top fr.stk) m.ret _ hp.out (fun e=>((SO5.out.stk _ (top_mem hne)).1.2.2.2 e).2)).mono ?_;rintro e w10 ⟨rfl,hb10⟩;have z0:w10.cell? ⟨W8.heap.size,0,none⟩=some (.int .i64 (top fr.stk).kind):=kept hb10 (by simp;omega) (by go_simp);have z1:w10.cell? ⟨W8.heap.size,1,none⟩=some (.int .i64 (top fr.stk).n):=kept hb10 (by simp;omega) (by go_simp);have H10:=(H9.out.res2 nx2.out _ _).below hb10;have K10:=kb (kres2 K9'.out hsz8 _ _) hb10;have hhb10:=H10.rows.base.2;clear hb10;replace H10:=Lib.hid H10;replace K10:=Lib.hid K10) | (go_at_call 63;obtain ⟨A1,A2⟩:=ended H10.out rfl 6 (Below.refl _ _);replace A2:=kxo K10.out N5.out A2;have z2:((w10.setCell ⟨E.hb,12,none⟩ (.bool true)).setCell ⟨E.hb,6,none⟩ (.int .i64 6)).cell? ⟨W8.heap.size,0,none⟩=some (.int .i64 (top fr.stk).kind):=(by go_simp);have z3:((w10.setCell ⟨E.hb,12,none⟩ (.bool true)).setCell ⟨E.hb,6,none⟩ (.int .i64 6)).cell? ⟨W8.heap.size,1,none⟩=some (.int .i64 (top fr.stk).n):=(by go_simp);refine (mustF H10.out rfl).mono ?_;rintro e w11 ⟨rfl,hw11⟩;rw [hw11] at A1 A2 z2 z3;clear hw11;have c4:=A1.c4;have f4:=A1.fz 4 (by decide);obtain ⟨r0,r1,f0,f1⟩:=hres.out _ A2;replace A1:=Lib.hid A1;replace A2:=Lib.hid A2))
           refine bodyPost_ret (v:=.agg #[.int .i64 (top fr.stk).kind,.int .i64 (top fr.stk).n]) (by simp [results,Tryz.results32,go_sem] <;> go_simp) rfl ?_
           exact finR KW.out A2.out N5.out (by omega) (by omega) (by omega) hszW hEB hold.out A1.out (by rw [hr0.out];exact ⟨rfl,rfl⟩)
       ·have q20b:(i.op==20)=false:=by simpa using q20
        have hA8:=actS_ok (g:=g3) (d:=d+1) MO.out M hm.out hmem HO8.out (by have:=HO5.out.outs;simp only;omega) SO5.out hs5
        have hHR:=Lib.hid (HRun.out (stepped h2) g3 (by show _ < g3+(h2.steps+1);omega) (by show _ < h2.steps+1;omega))
        obtain ⟨a,ha⟩:∃ a,Hid (actS E.f E.input E.fuel g3 (d+1) m i fr (stepped h2)=a):=⟨_,rfl⟩
        replace hA8:ActS E.f E.input E.fuel m (stepped h2) (actS E.f E.input E.fuel g3 (d+1) m i fr (stepped h2)):=hA8
        replace hR:Hid (r=roundS E.f E.input E.fuel g3 (d+1) m fr (actS E.f E.input E.fuel g3 (d+1) m i fr (stepped h2))):=hR
        rw [ha.out] at hA8 hR
        replace hA8:=Lib.hid hA8
        have hsz8:W.heap.size≤W8.heap.size:=K8.out.size
        have hstp:stepsOf E wr=h2.steps:=steps_of H5'.out
        replace hstp:=Lib.hid hstp
        cases a with
        | back v h'=>go_wp2_with (go_at_call 66;refine (does S M g3 H8.out F8.out HO8.out SO5.out hs5 (by omega) hfu hin hHR.out i (M.ins i hmem) q20 _).mono ?_;rintro e w9 ⟨n,rfl,L9,K9,N9,R9⟩;rw [ha.out] at R9;exact R9.elim)
        | call k args' fr' h'=>exact hA8.out.elim
        | go fr' h' =>
         go_wp2_with (go_at_call 66;refine (does S M g3 H8.out F8.out HO8.out SO5.out hs5 (by omega) hfu hin hHR.out i (M.ins i hmem) q20 _).mono ?_;rintro e w9 ⟨n,rfl,L9,K9,N9,R9⟩;rw [ha.out] at R9;obtain ⟨rfl,H9,vs9,F9⟩:=R9;have c12:w9.cell? ⟨E.hb,12,none⟩=some (.bool false):=H9.c12;have c13:w9.cell? ⟨E.hb,13,none⟩=some (.int .i64 (-1)):=H9.c13;have c10:=F9.c10;have f10:=F9.fz 10 (by decide);replace K9:=Lib.hid (kxx K8.out N5.out K9);replace N9:=Lib.hid (nxx hsz8 N5.out N9);replace H9:=Lib.hid H9;replace F9:=Lib.hid F9)
         obtain ⟨⟨O9,o1',o2'⟩,S9,s9⟩:=hA8.out
         have hst9:h2.steps+1≤h'.steps:=o2'
         have H10:=H9.out.frame F9.out (kpC P w9 10 (.int .i64 fr'.at_))
         refine ⟨.inl ⟨L9,h',fr',vs9,g3,by omega,H10,F9.out.go fr'.at_,⟨O9,S9,s9⟩,hR.out.symm,by omega,K9.out.setCell (p:=⟨P.cb,10,none⟩) (.inl (.inr (.inl rfl))) _,N9.out⟩,?_⟩
         rw [steps_of H10,hstp.out]
         omega
        | thrown o h' =>
         go_wp2_with (go_at_call 66;refine (does S M g3 H8.out F8.out HO8.out SO5.out hs5 (by omega) hfu hin hHR.out i (M.ins i hmem) q20 _).mono ?_;rintro e w9 ⟨n,rfl,L9,K9,N9,R9⟩;rw [ha.out] at R9;obtain ⟨H9,st9,vs9,F9⟩:=R9;have c12:w9.cell? ⟨E.hb,12,none⟩=some (.bool false):=H9.c12;have c13:w9.cell? ⟨E.hb,13,none⟩=some (.int .i64 (o:Int)):=H9.c13;have c10:=F9.c10;replace K9:=Lib.hid (kxx K8.out N5.out K9);replace N9:=Lib.hid (nxx hsz8 N5.out N9);replace H9:=Lib.hid H9;replace F9:=Lib.hid F9;have ho0:(0:Int)≤(o:Int):=(by omega))
         obtain ⟨⟨O9,o1',o2'⟩,ho9⟩:=hA8.out
         have hst9:h2.steps+1≤h'.steps:=o2'
         replace O9:=Lib.hid O9
         have m0:w9.cell? ⟨w.heap.size,0,none⟩=some (.slice pa m.params.length pcap):=hmb.out w9 K9.out 0 (by simp [mcells])
         have m1:w9.cell? ⟨w.heap.size,1,none⟩=some (.int .i64 m.ret.kind):=hmb.out w9 K9.out 1 (by simp [mcells])
         have m2:w9.cell? ⟨w.heap.size,2,none⟩=some (.int .i64 m.ret.cls):=hmb.out w9 K9.out 2 (by simp [mcells])
         have m3:w9.cell? ⟨w.heap.size,3,none⟩=some (.int .i64 m.stack):=hmb.out w9 K9.out 3 (by simp [mcells])
         have m4:w9.cell? ⟨w.heap.size,4,none⟩=some (.int .i64 m.locals):=hmb.out w9 K9.out 4 (by simp [mcells])
         have m5:w9.cell? ⟨w.heap.size,5,none⟩=some (.int .i64 m.regs):=hmb.out w9 K9.out 5 (by simp [mcells])
         have m6:w9.cell? ⟨w.heap.size,6,none⟩=some (.slice (some ⟨ib,io,none⟩) m.code.length icap):=hmb.out w9 K9.out 6 (by simp [mcells])
         have m7:w9.cell? ⟨w.heap.size,7,none⟩=some (.slice xa m.handlers.length xcap):=hmb.out w9 K9.out 7 (by simp [mcells])
         have K9d:=Lib.hid (kb K9.out (w2:=w9.drew) (by exact Rd.byB))
         have H9d:=Lib.hid (H9.out.below (w':=w9.drew) (by exact Rd.byB))
         have HH9:=Lib.hid (HHA.out.mono mHd (hbel.out _ K9d.out) (Nat.le_refl _))
         have F9d:=Lib.hid (F9.out.below (w':=w9.drew) (by exact Rd.byB))
         go_still_tail 6,(by kernel_rfl)
         obtain ⟨x,hx⟩:∃ x,Hid (handler E.f.classes m fr.at_ (obj h' o).cls=x):=⟨_,rfl⟩
         cases x with
         | none =>
          have hr0:Hid (r=.thrown o h'):=by
           show r=_
           rw [hR.out]
           simp only [roundS,after]
           rw [show handler E.f.classes m (SM.at_ fr) (obj h' o).cls=none from hx.out]
          clear hR m0 m1 m2 m3 m4 m5 m6 m7 y0 y1 y2 y3 y4 y5
          go_wp2_with (go_at_call 67;refine (caught H9d.out ho9 S.may m HH9.out fr.at_ (-1) (by rw [hx.out];rfl)).mono ?_;rintro e w10 ⟨rfl,hb10⟩;have H10:=H9d.out.below hb10;have K10:=kb K9d.out hb10;have c4:=H10.c4;have f4:=H10.fz 4 (by decide);obtain ⟨r0,r1,f0,f1⟩:=hres.out _ K10;clear hb10;replace H10:=Lib.hid H10;replace K10:=Lib.hid K10)
          refine bodyPost_ret (v:=.agg #[.int .i64 0,.int .i64 0]) (by simp [results,Tryz.results32,go_sem] <;> go_simp) rfl ?_
          exact finR KW.out K10.out N9.out (by omega) (by omega) (by omega) hszW hEB hold.out H10.out (by rw [hr0.out];exact ⟨rfl,rfl⟩)
         | some x =>
          have hxm:x∈m.handlers:=List.mem_of_find?_eq_some hx.out
          have hgo:0≤x.go:=by
           have:=M.hds.2 x hxm
           simp only [Form.hd,Bool.and_eq_true,rng_iff] at this
           exact this.1.2.1
          obtain ⟨ng,hng⟩:∃ ng:Nat,x.go=(ng:Int):=⟨x.go.toNat,by omega⟩
          clear m0 m1 m2 m3 m4 m5 m6 m7 y0 y1 y2 y3 y4 y5
          go_wp2_with (first | (go_at_call 67;refine (caught H9d.out ho9 S.may m HH9.out fr.at_ (ng:Int) (by rw [hx.out];exact hng)).mono ?_;rintro e w10 ⟨rfl,hb10⟩;have H10:=H9d.out.below hb10;have K10:=kb K9d.out hb10;have F10:=F9d.out.below hb10;have c13:w10.cell? ⟨E.hb,13,none⟩=some (.int .i64 (o:Int)):=H10.c13;have f13:=H10.fz 13 (by decide);have c9:=F10.c9;have f9:=F10.fz 9 (by decide);have c10:=F10.c10;have f10:=F10.fz 10 (by decide);have cbw:=F10.cbw;have hhb10:=H10.rows.base.2;have hcbne:P.cb≠E.hb:=(fun e=>F10.far.1 (.inl e));have hcbne2:=hcbne.symm;clear hb10;replace H10:=Lib.hid H10;replace K10:=Lib.hid K10;replace F10:=Lib.hid F10))
          have hcau:Hid (r=match scaught m fr ng o with
           | some fr2=>loop SM E.f E.input E.fuel g3 (d+1) m fr2 h'
           | none=>.stop 6 h'):=by
           show r=_
           rw [hR.out]
           simp only [roundS,after]
           rw [show handler E.f.classes m (SM.at_ fr) (obj h' o).cls=some x from hx.out]
           have e1:SM.caught m fr x.go.toNat o=scaught m fr ng o:=by rw [hng];rfl
           simp only [e1]
           cases scaught m fr ng o <;> rfl
          have A2:=RH.set (H10.out.frame F10.out (kpC P w10 9 (.slice none 0 0))) 13 (by decide) (.int .i64 (-1)) (h':=h') (d':=d+1) (s':=Sv.run) rfl rfl (by simp [cellsR,Sv.thr,Sv.run])
          have G1:=F10.out.push (VS.nil w10 _)
          have G2:=G1.heap (w':=(w10.setCell ⟨P.cb,9,none⟩ (.slice none 0 0)).setCell ⟨E.hb,13,none⟩ (.int .i64 (-1))) ((Kp.refl (own E L9) _).setCell (p:=⟨E.hb,13,none⟩) (.inl (.inl rfl)) _) same_own
          have KK:=(K10.out.setCell (p:=⟨P.cb,9,none⟩) (.inl (.inr (.inl rfl))) (.slice none 0 0)).setCell (p:=⟨E.hb,13,none⟩) (.inl (.inl (.inl rfl))) (.int .i64 (-1))
          replace A2:=Lib.hid A2
          replace G2:=Lib.hid G2
          replace KK:=Lib.hid KK
          clear G1
          go_wp2_with (go_at_call 68;refine (putA (A2.out.below (by exact Rd.byB)) (.inl rfl) (G2.out.below (by exact Rd.byB)) ⟨3,(o:Int)⟩ (by simp)).mono ?_;rintro e w11 ⟨vs11,rfl,F11,H11,K11⟩;have c10:=F11.c10;have f10:=F11.fz 10 (by decide);have K11':=kxx (kb KK.out (by exact Rd.byB)) N9.out K11;clear K11;replace K11':=Lib.hid K11';replace F11:=Lib.hid F11;replace H11:=Lib.hid H11)
          have H12:=H11.out.frame F11.out (kpC P w11 10 (.int .i64 ng))
          have F12:=F11.out.go ng
          have K12:=K11'.out.setCell (p:=⟨P.cb,10,none⟩) (.inl (.inr (.inl rfl))) (.int .i64 ng)
          refine ⟨?_,?_⟩
          ·by_cases hfit:1≤m.stack
           ·have e2:scaught m fr ng o=some (on fr [⟨3,o⟩] ng):=by unfold scaught;rw [if_pos hfit]
            have e3:putS Sv.run ([]++[(⟨3,(o:Int)⟩:Vl)]) m=Sv.run:=by rw [putS_run,if_pos (by simpa [size,width] using hfit)]
            rw [e3] at H12
            have hcc:=hcau.out
            rw [e2] at hcc
            exact .inl ⟨L9,h',on fr [⟨3,o⟩] ng,vs11,g3,by omega,H12,F12,⟨O9.out,MO.out.caught m hm.out _ o ng fr _ ho9 O9.out.many (SO5.out.mono (show h2.objs.length≤h'.objs.length from o1')) e2,by simp [on]⟩,hcc.symm,by omega,K12,N9.out⟩
           ·have e2:scaught m fr ng o=none:=by unfold scaught;rw [if_neg hfit]
            have e3:putS Sv.run ([]++[(⟨3,(o:Int)⟩:Vl)]) m=Sv.ends 6:=by rw [putS_run,if_neg (by simpa [size,width] using hfit)]
            rw [e3] at H12
            have hcc:=hcau.out
            rw [e2] at hcc
            exact .inr ⟨L9,h',6,H12,hcc,K12,N9.out⟩
          ·rw [steps_of H12,hstp.out]
           omega
        | stop c h' =>
         go_wp2_with (go_at_call 66;refine (does S M g3 H8.out F8.out HO8.out SO5.out hs5 (by omega) hfu hin hHR.out i (M.ins i hmem) q20 _).mono ?_;rintro e w9 ⟨n,rfl,L9,K9,N9,R9⟩;rw [ha.out] at R9;have c12:w9.cell? ⟨E.hb,12,none⟩=some (.bool true):=R9.c12;have c4:=R9.c4;have f4:=R9.fz 4 (by decide);replace K9:=kxx K8.out N5.out K9;obtain ⟨r0,r1,f0,f1⟩:=hres.out _ K9;replace K9:=Lib.hid K9;replace N9:=Lib.hid (nxx hsz8 N5.out N9);replace R9:=Lib.hid R9)
         refine bodyPost_ret (v:=.agg #[.int .i64 0,.int .i64 0]) (by simp [results,Tryz.results32,go_sem] <;> go_simp) rfl ?_
         exact finR KW.out K9.out N9.out (by omega) (by omega) (by omega) hszW hEB hold.out R9.out (by rw [hR.out];exact ⟨rfl,rfl⟩)
    ·obtain ⟨L2,h2,c,H5,hr5,K5,N5⟩:=hrel
     have H5':=Lib.hid H5
     have c4:=H5.c4
     have f4:=H5.fz 4 (by decide)
     obtain ⟨r0,r1,f0,f1⟩:=hres.out _ K5
     replace N5:=Lib.hid N5
     replace K5:=Lib.hid K5
     replace hr5:=Lib.hid hr5
     clear H5
     go_wp2_with (go_at_call 62;refine (stepOver H5'.out rfl).mono ?_;rintro e w6 ⟨rfl,rfl⟩)
     refine bodyPost_ret (v:=.agg #[.int .i64 0,.int .i64 0]) (by simp [results,Tryz.results32,go_sem] <;> go_simp) rfl ?_
     exact finR KW.out K5.out N5.out (by omega) (by omega) (by omega) hszW hEB hold.out H5'.out (by rw [hr5.out];exact ⟨rfl,rfl⟩)
end
end Rhw
end Go.Proofs.YtncmhenfgbcihabGreat
