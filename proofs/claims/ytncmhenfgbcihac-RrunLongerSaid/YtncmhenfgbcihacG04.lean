/- Parts of the proof: Ya, Yb, Yc, Yd, Ye, Yf, Yg, Yh. -/
import Derived.Test.YtncmhenfgbcihacG03
set_option linter.unusedSimpArgs false
set_option linter.unusedVariables false
set_option maxHeartbeats 8000000
namespace Go.Proofs.Ytncmhenfgbcihac
open Go.RowKit
namespace Hpr
open Num Rd D Run Mem HierW Hpw
def clr (fr:Rf):Rf:=⟨fr.regs,fr.at_,Vl.nil,Vl.nil⟩
structure PS where
 cb:Nat
 lb:Nat
 vp:Value
 vc:Value
 vh:Value
def mcs (P:PS) (m:Me):List Value:=[P.vp,.int .i64 m.ret.kind,.int .i64 m.ret.cls,.int .i64 m.stack,.int .i64 m.locals,.int .i64 m.regs,P.vc,P.vh]
def fcs (E:Ev) (P:PS) (m:Me) (fr:Rf) (vs:Value):List Value:=.pointer (some ⟨E.hb,0,none⟩) :: (mcs P m++[.slice (some ⟨P.lb,0,none⟩) fr.regs.length fr.regs.length,.int .i64 fr.at_,.int .i64 fr.given.kind,.int .i64 fr.given.n,.int .i64 fr.got.kind,.int .i64 fr.got.n,.bool false])
def fo (E:Ev) (L:Lay) (P:PS) (vs:Value) (k:Nat):Prop:=own E L k∨k=P.cb∨k=P.lb∨vs.ownBlock=some k
structure Mi (E:Ev) (w:World) (P:PS) (m:Me):Prop where
 ps:Sl 2 ETy w E.B P.vp m.params
 co:Sl 6 EIns w E.B P.vc m.code
 hs:Sl 4 EHd w E.B P.vh m.handlers
 ok:Ok m.ret.kind∧Ok m.ret.cls∧Ok m.stack∧Ok m.locals∧Ok m.regs
theorem Mi.mono {E:Ev}{w w':World}{P:PS}{m:Me}(M:Mi E w P m) (hb:Below E.B w w'):Mi E w' P m :=
 ⟨M.ps.mono mTy hb (Nat.le_refl _),M.co.mono mIns hb (Nat.le_refl _),M.hs.mono mHd hb (Nat.le_refl _),M.ok⟩
structure ST (E:Ev) (w:World) (L:Lay) (P:PS) (m:Me) (d:Nat) (h:Hp) (fr:Rf) (vs:Value):Prop where
 H:PH E w L h d
 M:Mi E w P m
 blk:Blk w P.cb (fcs E P m fr vs)
 loc:Blk w P.lb (vcells fr.regs)
 lbw:P.lb < w.heap.size
 stk:w.ownsRow E.B 48 2 vs 0 []
 lo:E.B≤P.cb∧E.B≤P.lb
 far:¬ own E L P.cb∧¬ own E L P.lb∧∀ g,vs.ownBlock=some g→¬ own E L g
 ne:P.cb≠P.lb∧vs.ownBlock≠some P.cb∧vs.ownBlock≠some P.lb
def LftF (E:Ev) (L:Lay) (P:PS) (m:Me) (d:Nat) (vs:Value) (w w':World) (h:Hp) (fr:Rf):Prop :=
 ∃ L' vs',Kp (fo E L P vs) w w'∧(∀ k,own E L' k→own E L k∨w.heap.size≤k)∧(∀ k,vs'.ownBlock=some k→vs.ownBlock=some k∨w.heap.size≤k)∧ST E w' L' P m d h fr vs'
def LftS (E:Ev) (L:Lay) (P:PS) (d:Nat) (vs:Value) (w w':World) (h:Hp):Prop :=
 ∃ L',Kp (fo E L P vs) w w'∧(∀ k,own E L' k→own E L k∨w.heap.size≤k)∧PH E w' L' h d
def PlR (E:Ev) (L:Lay) (P:PS) (m:Me) (d:Nat) (vs:Value) (fr:Rf) (V:Value) (w:World) (a:Out Rf) (e:Ending) (w':World):Prop:=match a with
 | .go fr' h=>e=.returned V∧LftF E L P m d vs w w' h ⟨fr'.regs,fr.at_,Vl.nil,Vl.nil⟩
 | .back _ _=>False
 | .thrown o h=>Pan (thrownV o) e∧LftF E L P m d vs w w' h (clr fr)
 | .stop c h=>Pan (stopV c) e∧LftS E L P d vs w w' h
def oA (a:Run.Act Rf):Out Rf:=match a with
 | .go fr h=>.go fr h
 | .back v h=>.back v h
 | .thrown o h=>.thrown o h
 | .stop e h=>.stop e h
 | .call _ _ _ h=>.stop 6 h
structure Gr (E:Ev) (L:Lay) (P:PS) (vs:Value) (w:World) (L1:Lay) (vs1:Value) (w1:World):Prop where
 kp:Kp (fo E L P vs) w w1
 ow:∀ k,own E L1 k→own E L k∨w.heap.size≤k
 st:∀ k,vs1.ownBlock=some k→vs.ownBlock=some k∨w.heap.size≤k
section
variable {E:Ev}{w w' w0 w1 w2 w3 wc:World}{L L' L1 L2:Lay}{h h' h1 h2:Hp}{d:Nat}{P:PS}{m:Me}{fr fr' fr1:Rf}{vs vs1 vs2:Value}
theorem ST.cbw (S:ST E w L P m d h fr vs):P.cb < w.heap.size:=cell_lt (S.blk 0 (by simp [fcs,mcs])).1
theorem ST.base (S:ST E w L P m d h fr vs):E.B≤w.heap.size:=Nat.le_of_lt (Nat.lt_of_le_of_lt S.lo.1 S.cbw)
theorem ST.fo_lo (S:ST E w L P m d h fr vs){k:Nat}(hk:fo E L P vs k):E.B≤k∧k < w.heap.size:=by
 rcases hk with e | e | e | e
 ·exact own_lo S.H e
 ·subst e;exact ⟨S.lo.1,S.cbw⟩
 ·subst e;exact ⟨S.lo.2,S.lbw⟩
 ·exact World.ownsRow.lt S.stk k e
theorem ST.bel (S:ST E w L P m d h fr vs) (K:Kp (fo E L P vs) w w'):Below E.B w w':=K.below S.base (fun x hx=>(S.fo_lo hx).1)
theorem ST.c0 (S:ST E w L P m d h fr vs):w.cell? ⟨P.cb,0,none⟩=some (.pointer (some ⟨E.hb,0,none⟩)):=(S.blk 0 (by simp [fcs,mcs])).1
theorem ST.c1 (S:ST E w L P m d h fr vs):w.cell? ⟨P.cb,1,none⟩=some P.vp:=(S.blk 1 (by simp [fcs,mcs])).1
theorem ST.c2 (S:ST E w L P m d h fr vs):w.cell? ⟨P.cb,2,none⟩=some (.int .i64 m.ret.kind):=(S.blk 2 (by simp [fcs,mcs])).1
theorem ST.c3 (S:ST E w L P m d h fr vs):w.cell? ⟨P.cb,3,none⟩=some (.int .i64 m.ret.cls):=(S.blk 3 (by simp [fcs,mcs])).1
theorem ST.c4 (S:ST E w L P m d h fr vs):w.cell? ⟨P.cb,4,none⟩=some (.int .i64 m.stack):=(S.blk 4 (by simp [fcs,mcs])).1
theorem ST.c7 (S:ST E w L P m d h fr vs):w.cell? ⟨P.cb,7,none⟩=some P.vc:=(S.blk 7 (by simp [fcs,mcs])).1
theorem ST.c9 (S:ST E w L P m d h fr vs):w.cell? ⟨P.cb,9,none⟩=some (.slice (some ⟨P.lb,0,none⟩) fr.regs.length fr.regs.length):=(S.blk 9 (by simp [fcs,mcs])).1
theorem ST.c10 (S:ST E w L P m d h fr vs):w.cell? ⟨P.cb,10,none⟩=some (.int .i64 fr.at_):=(S.blk 10 (by simp [fcs,mcs])).1
theorem ST.c11 (S:ST E w L P m d h fr vs):w.cell? ⟨P.cb,11,none⟩=some (.int .i64 fr.given.kind):=(S.blk 11 (by simp [fcs,mcs])).1
theorem ST.c12 (S:ST E w L P m d h fr vs):w.cell? ⟨P.cb,12,none⟩=some (.int .i64 fr.given.n):=(S.blk 12 (by simp [fcs,mcs])).1
theorem ST.c13 (S:ST E w L P m d h fr vs):w.cell? ⟨P.cb,13,none⟩=some (.int .i64 fr.got.kind):=(S.blk 13 (by simp [fcs,mcs])).1
theorem ST.c14 (S:ST E w L P m d h fr vs):w.cell? ⟨P.cb,14,none⟩=some (.int .i64 fr.got.n):=(S.blk 14 (by simp [fcs,mcs])).1
theorem ST.fz (S:ST E w L P m d h fr vs) (k:Nat) (hk:k < 16):w.frozen? ⟨P.cb,k,none⟩=false:=(S.blk k (by simp [fcs,mcs];exact hk)).2
theorem ST.heap (S:ST E w L P m d h fr vs) (K:Kp (own E L) w w') (N:∀ k,own E L' k→own E L k∨w.heap.size≤k) (H:PH E w' L' h' d):ST E w' L' P m d h' fr vs:=by
 have hc:=S.cbw
 have hl:=S.lbw
 have far:∀ k,k < w.heap.size→¬ own E L k→¬ own E L' k:=fun k hlt hn hk=>by
  rcases N k hk with q | q
  ·exact hn q
  ·omega
 exact ⟨H,S.M.mono (K.below S.base (fun k hk=>(own_lo S.H hk).1)),S.blk.next K S.far.1,S.loc.next K S.far.2.1,Nat.lt_of_lt_of_le hl K.size,row_keep S.stk K S.far.2.2,S.lo,⟨far _ hc S.far.1,far _ hl S.far.2.1,fun g hg=>far _ (World.ownsRow.lt S.stk g hg).2 (S.far.2.2 g hg)⟩,S.ne⟩
theorem ST.below (S:ST E w L P m d h fr vs) (hb:Below w.heap.size w w'):ST E w' L P m d h fr vs:=S.heap (kpB hb) same_own (S.H.below hb)
theorem ST.lft (S:ST E w L P m d h fr vs) (hb:Below w.heap.size w w'):LftF E L P m d vs w w' h fr:=⟨L,vs,Mem.Kp.of_below hb (Nat.le_refl _),same_own,fun _ e=>.inl e,S.below hb⟩
theorem ST.lftH (S:ST E w L P m d h fr vs) (A:Lft E L d w w' h'):LftF E L P m d vs w w' h' fr:=by
 obtain ⟨L',K,N,H⟩:=A
 exact ⟨L',vs,K.mono (fun k hk=>.inl hk),N,fun _ e=>.inl e,S.heap K N H⟩
theorem LftF.trans (A:LftF E L P m d vs w w1 h1 fr1) (B:∀ L1 vs1,ST E w1 L1 P m d h1 fr1 vs1→(∀ k,own E L1 k→own E L k∨w.heap.size≤k)→LftF E L1 P m d vs1 w1 w2 h2 fr):LftF E L P m d vs w w2 h2 fr:=by
 obtain ⟨L1,vs1,K,N,V,S⟩:=A
 obtain ⟨L2,vs2,K2,N2,V2,S2⟩:=B L1 vs1 S N
 have hs:=K.size
 refine ⟨L2,vs2,K.trans K2 (fun y hy=>?_),fun k hk=>(N2 k hk).elim (N k) (fun q=>.inr (by omega)),fun k hk=>(V2 k hk).elim (V k) (fun q=>.inr (by omega)),S2⟩
 rcases hy with e | e | e | e
 ·exact (N y e).imp .inl id
 ·exact .inl (.inr (.inl e))
 ·exact .inl (.inr (.inr (.inl e)))
 ·exact (V y e).imp (fun q=>.inr (.inr (.inr q))) id
theorem LftF.stop (A:LftF E L P m d vs w w' h fr):LftS E L P d vs w w' h:=by
 obtain ⟨L1,vs1,K,N,V,S⟩:=A
 exact ⟨L1,K,N,S.H⟩
theorem LftF.below (A:LftF E L P m d vs w w1 h fr) (hb:Below w1.heap.size w1 w2):LftF E L P m d vs w w2 h fr:=A.trans (fun _ _ S _=>S.lft hb)
theorem LftS.below (A:LftS E L P d vs w w1 h) (hb:Below w1.heap.size w1 w2):LftS E L P d vs w w2 h:=by
 obtain ⟨L1,K,N,S⟩:=A
 exact ⟨L1,kb K hb,N,S.below hb⟩
theorem Lft.stop (S:ST E w L P m d h fr vs) (A:Lft E L d w w' h'):LftS E L P d vs w w' h':=(S.lftH A).stop
theorem ST.setF (S:ST E w L P m d h fr vs){fr2:Rf}(K:Kp (fun k=>k=P.cb) w w') (B:Blk w' P.cb (fcs E P m fr2 vs)) (hl:fr2.regs=fr.regs):LftF E L P m d vs w w' h fr2:=by
 refine ⟨L,vs,K.mono (fun k e=>.inr (.inl e)),same_own,fun _ e=>.inl e,?_⟩
 exact ⟨S.H.keep K (fun k e=>by subst e;exact ⟨S.lo.1,S.far.1⟩),S.M.mono (K.below S.base (fun k e=>by subst e;exact S.lo.1)),B,by rw [hl];exact S.loc.next K (fun e=>S.ne.1 e.symm),Nat.lt_of_lt_of_le S.lbw K.size,row_keep S.stk K (fun g hg e=>S.ne.2.1 (e ▸ hg)),S.lo,S.far,S.ne⟩
theorem ST.setAt (S:ST E w L P m d h fr vs) (a:Nat):LftF E L P m d vs w (w.setCell ⟨P.cb,10,none⟩ (.int .i64 a)) h ⟨fr.regs,a,fr.given,fr.got⟩ :=
 S.setF ((Kp.refl (fun k=>k=P.cb) w).setCell (p:=⟨P.cb,10,none⟩) (.inl rfl) _) (S.blk.set 10 (by simp [fcs,mcs]) (.int .i64 a)) rfl
theorem ST.setGiven (S:ST E w L P m d h fr vs) (v:Vl):LftF E L P m d vs w ((w.setCell ⟨P.cb,11,none⟩ (.int .i64 v.kind)).setCell ⟨P.cb,12,none⟩ (.int .i64 v.n)) h ⟨fr.regs,fr.at_,v,fr.got⟩ :=
 S.setF (((Kp.refl (fun k=>k=P.cb) w).setCell (p:=⟨P.cb,11,none⟩) (.inl rfl) _).setCell (p:=⟨P.cb,12,none⟩) (.inl rfl) _) ((S.blk.set 11 (by simp [fcs,mcs]) (.int .i64 v.kind)).set 12 (by simp [fcs,mcs]) (.int .i64 v.n)) rfl
theorem ST.setGot (S:ST E w L P m d h fr vs) (v:Vl):LftF E L P m d vs w ((w.setCell ⟨P.cb,13,none⟩ (.int .i64 v.kind)).setCell ⟨P.cb,14,none⟩ (.int .i64 v.n)) h ⟨fr.regs,fr.at_,fr.given,v⟩ :=
 S.setF (((Kp.refl (fun k=>k=P.cb) w).setCell (p:=⟨P.cb,13,none⟩) (.inl rfl) _).setCell (p:=⟨P.cb,14,none⟩) (.inl rfl) _) ((S.blk.set 13 (by simp [fcs,mcs]) (.int .i64 v.kind)).set 14 (by simp [fcs,mcs]) (.int .i64 v.n)) rfl
theorem ST.setLoc (S:ST E w L P m d h fr vs){l:List Vl}(hl:l.length=fr.regs.length) (K:Kp (fun k=>k=P.lb) w w') (B:Blk w' P.lb (vcells l)):LftF E L P m d vs w w' h ⟨l,fr.at_,fr.given,fr.got⟩:=by
 refine ⟨L,vs,K.mono (fun k e=>.inr (.inr (.inl e))),same_own,fun _ e=>.inl e,?_⟩
 refine ⟨S.H.keep K (fun k e=>by subst e;exact ⟨S.lo.2,S.far.2.1⟩),S.M.mono (K.below S.base (fun k e=>by subst e;exact S.lo.2)),?_,B,Nat.lt_of_lt_of_le S.lbw K.size,row_keep S.stk K (fun g hg e=>S.ne.2.2 (e ▸ hg)),S.lo,S.far,S.ne⟩
 have:=S.blk.next K S.ne.1
 unfold fcs at this ⊢
 rw [hl]
 exact this
theorem ST.fo_new (S:ST E w L P m d h fr vs){b:Nat}(hb:w.heap.size≤b):¬ fo E L P vs b:=fun hk=>by have:=(S.fo_lo hk).2;omega
theorem LftF.before (hb:Below w.heap.size w w1) (A:LftF E L P m d vs w1 w2 h fr):LftF E L P m d vs w w2 h fr:=by
 obtain ⟨L1,vs1,K,N,V,S⟩:=A
 have hs:=hb.size
 exact ⟨L1,vs1,(Kp.of_below (X:=fo E L P vs) hb (Nat.le_refl _)).trans K (fun y hy=>.inl hy),fun k hk=>(N k hk).imp id (fun q=>by omega),fun k hk=>(V k hk).imp id (fun q=>by omega),S⟩
theorem LftF.box (A:LftF E L P m d vs w w' h fr){b o:Nat}{v:Value}(hc:w.cell? ⟨b,o,none⟩=some v) (hb:¬ fo E L P vs b):w'.cell? ⟨b,o,none⟩=some v:=by
 obtain ⟨L1,vs1,K,N,V,S⟩:=A
 exact K.cell hc hb
theorem LftF.boxf (A:LftF E L P m d vs w w' h fr){b o:Nat}{x:Bool}(hc:w.frozen? ⟨b,o,none⟩=x) (hl:b < w.heap.size) (hb:¬ fo E L P vs b):w'.frozen? ⟨b,o,none⟩=x:=by
 obtain ⟨L1,vs1,K,N,V,S⟩:=A
 exact K.frz hc hl hb
theorem LftF.size (A:LftF E L P m d vs w w' h fr):w.heap.size≤w'.heap.size:=by
 obtain ⟨L1,vs1,K,N,V,S⟩:=A
 exact K.size
theorem ST.res (S:ST E w L P m d h fr vs){b:Nat}(h1:E.B≤b) (h2:¬ fo E L P vs b) (j:Nat) (x:Value):ST E (w.setCell ⟨b,j,none⟩ x) L P m d h fr vs:=by
 have K:Kp (fun k=>k=b) w (w.setCell ⟨b,j,none⟩ x):=Kp.setCell (Kp.refl (fun k=>k=b) w) (p:=⟨b,j,none⟩) (.inl rfl) x
 have no:∀ k,fo E L P vs k→¬ k=b:=fun k hk e=>h2 (e ▸ hk)
 exact ⟨S.H.res h1 (fun e=>h2 (.inl e)) j x,S.M.mono (K.below S.base (fun k e=>by subst e;exact h1)),S.blk.next K (no _ (.inr (.inl rfl))),S.loc.next K (no _ (.inr (.inr (.inl rfl)))),Nat.lt_of_lt_of_le S.lbw K.size,row_keep S.stk K (fun g hg e=>no g (.inr (.inr (.inr hg))) e),S.lo,S.far,S.ne⟩
theorem LftF.res2 (S:ST E w L P m d h' fr' vs) (hb:Below w.heap.size w w1) (A:LftF E L P m d vs w1 w2 h fr){b:Nat}(h1:w.heap.size≤b) (h2:b < w1.heap.size) (x y:Value):LftF E L P m d vs w ((w2.setCell ⟨b,0,none⟩ x).setCell ⟨b,1,none⟩ y) h fr:=by
 obtain ⟨L1,vs1,K,N,V,S2⟩:=A
 have hs:=hb.size
 have hEB:=S.base
 have nf:¬ fo E L1 P vs1 b:=fun hk=>by
  have hlo:∀ k,fo E L P vs k→k < w.heap.size:=fun k hk=>(S.fo_lo hk).2
  rcases hk with e | e | e | e
  ·rcases N b e with q | q
   ·have:=hlo b (.inl q);omega
   ·omega
  ·have:=hlo b (.inr (.inl e));omega
  ·have:=hlo b (.inr (.inr (.inl e)));omega
  ·rcases V b e with q | q
   ·have:=hlo b (.inr (.inr (.inr q)));omega
   ·omega
 exact ⟨L1,vs1,(((Kp.of_below (X:=fo E L P vs) hb (Nat.le_refl _)).trans K (fun y hy=>.inl hy)).setCell (p:=⟨b,0,none⟩) (.inr h1) x).setCell (p:=⟨b,1,none⟩) (.inr h1) y,fun k hk=>(N k hk).imp id (fun q=>by omega),fun k hk=>(V k hk).imp id (fun q=>by omega),(S2.res (by omega) nf 0 x).res (by omega) nf 1 y⟩
theorem LftF.opn (A:LftF E L P m d vs w w' h fr):∃ L1 vs1,Gr E L P vs w L1 vs1 w'∧ST E w' L1 P m d h fr vs1:=by
 obtain ⟨L1,vs1,K,N,V,S⟩:=A
 exact ⟨L1,vs1,⟨K,N,V⟩,S⟩
theorem Gr.lft (G:Gr E L P vs w L1 vs1 w') (S:ST E w' L1 P m d h fr vs1):LftF E L P m d vs w w' h fr:=⟨L1,vs1,G.kp,G.ow,G.st,S⟩
theorem Gr.fo (G:Gr E L P vs w L1 vs1 w1){k:Nat}(hk:fo E L1 P vs1 k):fo E L P vs k∨w.heap.size≤k:=by
 rcases hk with e | e | e | e
 ·exact (G.ow k e).imp .inl id
 ·exact .inl (.inr (.inl e))
 ·exact .inl (.inr (.inr (.inl e)))
 ·exact (G.st k e).imp (fun q=>.inr (.inr (.inr q))) id
theorem Gr.nf (G:Gr E L P vs w L1 vs1 w1){b:Nat}(hb:b < w.heap.size) (nf:¬ Hpr.fo E L P vs b):¬ Hpr.fo E L1 P vs1 b:=fun hk=>by
 rcases G.fo hk with q | q
 ·exact nf q
 ·omega
theorem Gr.trans (G:Gr E L P vs w L1 vs1 w1) (G2:Gr E L1 P vs1 w1 L2 vs2 w2):Gr E L P vs w L2 vs2 w2:=by
 have hs:=G.kp.size
 exact ⟨G.kp.trans G2.kp (fun y hy=>G.fo hy),fun k hk=>(G2.ow k hk).elim (G.ow k) (fun q=>.inr (by omega)),fun k hk=>(G2.st k hk).elim (G.st k) (fun q=>.inr (by omega))⟩
theorem Gr.of_below (hb:Below w.heap.size w w1):Gr E L P vs w L vs w1:=⟨Kp.of_below hb (Nat.le_refl _),fun _ h=>.inl h,fun _ h=>.inl h⟩
theorem Gr.of_heap (A:Lft E L d w w1 h') (S:ST E w L P m d h fr vs):∃ L1,Gr E L P vs w L1 vs w1∧ST E w1 L1 P m d h' fr vs:=by
 obtain ⟨L',K,N,H⟩:=A
 exact ⟨L',⟨K.mono (fun k hk=>.inl hk),N,fun _ h=>.inl h⟩,S.heap K N H⟩
theorem Gr.cell (G:Gr E L P vs w L1 vs1 w1){b o:Nat}{v:Value}(nf:¬ Hpr.fo E L P vs b) (hc:w.cell? ⟨b,o,none⟩=some v):w1.cell? ⟨b,o,none⟩=some v:=G.kp.cell hc nf
theorem Gr.frz (G:Gr E L P vs w L1 vs1 w1){b o:Nat}{x:Bool}(nf:¬ Hpr.fo E L P vs b) (hl:b < w.heap.size) (hc:w.frozen? ⟨b,o,none⟩=x):w1.frozen? ⟨b,o,none⟩=x:=G.kp.frz hc hl nf
theorem Gr.comp (G:Gr E L P vs w L1 vs1 w1) (B:LftF E L1 P m d vs1 w1 w2 h fr):LftF E L P m d vs w w2 h fr:=by
 obtain ⟨L2,vs2,G2,S2⟩:=B.opn
 exact (G.trans G2).lft S2
theorem Gr.compS (G:Gr E L P vs w L1 vs1 w1) (B:LftS E L1 P d vs1 w1 w2 h):LftS E L P d vs w w2 h:=by
 obtain ⟨L2,K2,N2,H2⟩:=B
 have hs:=G.kp.size
 exact ⟨L2,G.kp.trans K2 (fun y hy=>G.fo hy),fun k hk=>(N2 k hk).elim (G.ow k) (fun q=>.inr (by omega)),H2⟩
theorem plr_stuck {U:Value}(G:Gr E L P vs w L1 vs1 w1) (S:ST E w1 L1 P m d h fr1 vs1):PlR E L P m d vs fr U w (.stop 6 h) (pan (stopV 6)) w1:=⟨Pan.one _,(G.lft S).stop⟩
theorem plr_thrown {U:Value}{o:Nat}(G:Gr E L P vs w L1 vs1 w1) (S:ST E w1 L1 P m d h (clr fr) vs1):PlR E L P m d vs fr U w (.thrown o h) (pan (thrownV o)) w1:=⟨Pan.one _,G.lft S⟩
theorem plr_stop {U:Value}{c:Int}(G:Gr E L P vs w L1 vs1 w1) (S:ST E w1 L1 P m d h fr1 vs1):PlR E L P m d vs fr U w (.stop c h) (pan (stopV c)) w1:=⟨Pan.one _,(G.lft S).stop⟩
theorem plr_go {U:Value}{l:List Vl}{a:Nat}{g1 g2:Vl}(G:Gr E L P vs w L1 vs1 w1) (S:ST E w1 L1 P m d h ⟨l,fr.at_,Vl.nil,Vl.nil⟩ vs1):PlR E L P m d vs fr U w (.go ⟨l,a,g1,g2⟩ h) (.returned U) w1:=⟨rfl,G.lft S⟩
theorem readOk (S:ST E w L P m d h fr vs) (k:Nat) (hk:k < fr.regs.length) (h1000:fr.regs.length≤1000) (x:Vl) (hx:fr.regs.getD k Vl.nil=x) (kd:Int) (hkd:x.kind=kd) :
  Calls Try.prog 74 #[.pointer (some ⟨P.cb,0,none⟩),.int .i64 k,.int .i64 kd] w fun e w'=>e=.returned (.agg #[.int .i64 x.kind,.int .i64 x.n])∧Below w.heap.size w w':=by
 have c9:=S.c9
 have hcb:=S.cbw
 have HL:=Lib.hid S.loc
 clear S
 go_enter Try.func74,Try.ntmps74
 go_wp2_with (go_at_call 104;refine (loadOk (HL.out.alloc _) k x hx hk h1000 kd hkd).mono ?_;rintro e w2 ⟨rfl,hb2⟩;have y0:w2.cell? ⟨w.heap.size,0,none⟩=some (.int .i64 0):=kept hb2 Rd.byL (by go_simp);have y1:w2.cell? ⟨w.heap.size,1,none⟩=some (.int .i64 0):=kept hb2 Rd.byL (by go_simp);have f0:w2.frozen? ⟨w.heap.size,0,none⟩=false:=frz_kept hb2 Rd.byL (by go_simp);have f1:w2.frozen? ⟨w.heap.size,1,none⟩=false:=frz_kept hb2 Rd.byL (by go_simp);have hbw:Below w.heap.size w w2:=Below.trans (by exact Rd.byB) (hb2.mono Rd.byL);have hlt:=cell_lt y0;clear hb2)
 refine bodyPost_ret (v:=.agg #[.int .i64 x.kind,.int .i64 x.n]) (by simp [results,Try.results74,go_sem] <;> go_simp) rfl ?_
 exact ⟨rfl,by exact Rd.byB⟩
theorem readBad (S:ST E w L P m d h fr vs) (k:Nat) (hk:k < fr.regs.length) (h1000:fr.regs.length≤1000) (x:Vl) (hx:fr.regs.getD k Vl.nil=x) (kd:Int) (hkd:x.kind≠kd) :
  Calls Try.prog 74 #[.pointer (some ⟨P.cb,0,none⟩),.int .i64 k,.int .i64 kd] w fun e w'=>e=pan (stopV 6)∧Below w.heap.size w w':=by
 have c9:=S.c9
 have hcb:=S.cbw
 have HL:=Lib.hid S.loc
 clear S
 go_enter Try.func74,Try.ntmps74
 go_wp2_with (go_at_call 104;refine (loadStuck (HL.out.alloc _) k x hx hk h1000 kd hkd).mono ?_;rintro e w2 ⟨rfl,hb2⟩;unfold pan)
 refine And.intro rfl ?_
 exact ⟨rfl,Below.trans (by exact Rd.byB) (hb2.mono Rd.byL)⟩
theorem storeR (S:ST E w L P m d h fr vs) (hP:Paired fr.regs) (k:Nat) (v:Vl) (hk:k+width v≤fr.regs.length) (h1000:fr.regs.length≤1000) :
  Calls Try.prog 37 #[.slice (some ⟨P.lb,0,none⟩) fr.regs.length fr.regs.length,.int .i64 k,.agg #[.int .i64 v.kind,.int .i64 v.n]] w fun e w'=>e=.returned (.tuple #[])∧LftF E L P m d vs w w' h ⟨Run.store fr.regs k v,fr.at_,fr.given,fr.got⟩ :=
 (storeP S.loc S.lbw hP k v hk h1000).mono fun e w' ⟨he,hb,hk⟩=>⟨he,S.setLoc (Run.store_len _ _ _) hk hb⟩
theorem writeR (S:ST E w L P m d h fr vs) (hP:Paired fr.regs) (k:Nat) (v:Vl) (hk:k+width v≤fr.regs.length) (h1000:fr.regs.length≤1000) :
  Calls Try.prog 106 #[.pointer (some ⟨P.cb,0,none⟩),.int .i64 k,.int .i64 v.kind,.int .i64 v.n] w fun e w'=>e=.returned (.tuple #[])∧LftF E L P m d vs w w' h ⟨Run.store fr.regs k v,fr.at_,fr.given,fr.got⟩:=by
 have c9:=S.c9
 have hcb:=S.cbw
 have HS:=Lib.hid S
 clear S
 go_enter Try.func106,Try.ntmps106
 go_wp2_with (go_at_call 37;refine (storeR HS.out hP k v hk h1000).mono ?_;rintro e w2 ⟨rfl,A⟩)
 go_end0
 exact ⟨rfl,A⟩
end
end Hpr
namespace Hpr
open Num Rd D Run Mem HierW Hpw
section
variable {E:Ev}{w w' w1 w2:World}{L L' L1:Lay}{h h' h1 h2:Hp}{d:Nat}{P:PS}{m:Me}{fr fr1:Rf}{vs vs1:Value}{rg:List Vl}{ap:Nat}
theorem readR (S:ST E w L P m d h fr vs) (k:Nat) (hk:k < fr.regs.length) (h1000:fr.regs.length≤1000) (x:Vl) (hx:fr.regs.getD k Vl.nil=x) (kd:Int) :
  Calls Try.prog 74 #[.pointer (some ⟨P.cb,0,none⟩),.int .i64 k,.int .i64 kd] w fun e w'=>((x.kind=kd∧e=.returned (.agg #[.int .i64 x.kind,.int .i64 x.n]))∨(x.kind≠kd∧e=pan (stopV 6)))∧Below w.heap.size w w':=by
 by_cases q:x.kind=kd
 ·exact (readOk S k hk h1000 x hx kd q).mono fun e w' ⟨he,hb⟩=>⟨.inl ⟨q,he⟩,hb⟩
 ·exact (readBad S k hk h1000 x hx kd q).mono fun e w' ⟨he,hb⟩=>⟨.inr ⟨q,he⟩,hb⟩
theorem plr_stuckE {a:Out Rf}{U:Value}(ha:a=.stop 6 h) (G:Gr E L P vs w L1 vs1 w1) (S:ST E w1 L1 P m d h fr1 vs1):PlR E L P m d vs fr U w a (pan (stopV 6)) w1:=by rw [ha];exact plr_stuck G S
theorem plr_goE {a:Out Rf}{U:Value}{l:List Vl}{t:Nat}{g1 g2:Vl}(ha:a=.go ⟨l,t,g1,g2⟩ h) (G:Gr E L P vs w L1 vs1 w1) (A:LftF E L1 P m d vs1 w1 w2 h ⟨l,fr.at_,Vl.nil,Vl.nil⟩):PlR E L P m d vs fr U w a (.returned U) w2:=by rw [ha];exact ⟨rfl,G.comp A⟩
theorem rt1 {f:Fi}{input:List Int}{m:Me}{a b c n:Int}{args:List Int}{fr:Rf}{h:Hp}:rstep f input m ⟨1,a,b,c,n,args⟩ fr h=rset fr a ⟨1,n⟩ h:=rfl
theorem rt2 {f:Fi}{input:List Int}{m:Me}{a b c n:Int}{args:List Int}{fr:Rf}{h:Hp}:rstep f input m ⟨2,a,b,c,n,args⟩ fr h=rset fr a ⟨2,n⟩ h:=rfl
theorem rt3 {f:Fi}{input:List Int}{m:Me}{a b c n:Int}{args:List Int}{fr:Rf}{h:Hp}:rstep f input m ⟨3,a,b,c,n,args⟩ fr h=rset fr a ⟨3,-1⟩ h:=rfl
theorem rt4 {f:Fi}{input:List Int}{m:Me}{a b c n:Int}{args:List Int}{fr:Rf}{h:Hp}:rstep f input m ⟨4,a,b,c,n,args⟩ fr h=rkind (rd fr b) c h (rset fr a (rd fr b) h):=rfl
theorem rt5 {f:Fi}{input:List Int}{m:Me}{a b c n:Int}{args:List Int}{fr:Rf}{h:Hp}:rstep f input m ⟨5,a,b,c,n,args⟩ fr h=(reckon f.classes (rd fr b) (rd fr c) 1 n h).act fun v h=>rset fr a v h:=rfl
theorem rt6 {f:Fi}{input:List Int}{m:Me}{a b c n:Int}{args:List Int}{fr:Rf}{h:Hp}:rstep f input m ⟨6,a,b,c,n,args⟩ fr h=(reckon f.classes (rd fr b) (rd fr c) 2 n h).act fun v h=>rset fr a v h:=rfl
theorem rt7 {f:Fi}{input:List Int}{m:Me}{a b c n:Int}{args:List Int}{fr:Rf}{h:Hp}:rstep f input m ⟨7,a,b,c,n,args⟩ fr h=rkind (rd fr b) 1 h (rset fr a ⟨2,(rd fr b).n⟩ h):=rfl
theorem rt8 {f:Fi}{input:List Int}{m:Me}{a b c n:Int}{args:List Int}{fr:Rf}{h:Hp}:rstep f input m ⟨8,a,b,c,n,args⟩ fr h=rkind (rd fr b) 2 h (rset fr a ⟨1,wrap32 (rd fr b).n⟩ h):=rfl
theorem rt9 {f:Fi}{input:List Int}{m:Me}{a b c n:Int}{args:List Int}{fr:Rf}{h:Hp}:rstep f input m ⟨9,a,b,c,n,args⟩ fr h=rkind (rd fr b) 2 h (rkind (rd fr c) 2 h (rset fr a ⟨1,Num.cmp (rd fr b).n (rd fr c).n⟩ h)):=rfl
theorem rt13 {f:Fi}{input:List Int}{m:Me}{a b c n:Int}{args:List Int}{fr:Rf}{h:Hp}:rstep f input m ⟨13,a,b,c,n,args⟩ fr h=(new f.classes b h).act fun v h=>rset fr a v h:=rfl
theorem rt14 {f:Fi}{input:List Int}{m:Me}{a b c n:Int}{args:List Int}{fr:Rf}{h:Hp}:rstep f input m ⟨14,a,b,c,n,args⟩ fr h=rkind (rd fr b) 3 h ((get f.classes (rd fr b) c n h).act fun v h=>rset fr a v h):=rfl
theorem rt15 {f:Fi}{input:List Int}{m:Me}{a b c n:Int}{args:List Int}{fr:Rf}{h:Hp}:rstep f input m ⟨15,a,b,c,n,args⟩ fr h=rkind (rd fr b) 3 h (rkind (rd fr a) (ftype f.classes c n).kind h ((put f.classes (rd fr b) c n (rd fr a) (ftype f.classes c n) h).act fun _ h=>rgo fr (fr.at_+1) h)):=rfl
theorem rt16 {f:Fi}{input:List Int}{m:Me}{a b c n:Int}{args:List Int}{fr:Rf}{h:Hp}:rstep f input m ⟨16,a,b,c,n,args⟩ fr h=rkind (rd fr a) 3 h ((cast f.classes (rd fr a) b h).act fun _ h=>rgo fr (fr.at_+1) h):=rfl
theorem rt17 {f:Fi}{input:List Int}{m:Me}{a b c n:Int}{args:List Int}{fr:Rf}{h:Hp}:rstep f input m ⟨17,a,b,c,n,args⟩ fr h=rkind (rd fr b) 3 h ((isV f.classes (rd fr b) c h).act fun v h=>rset fr a v h):=rfl
theorem rt23 {f:Fi}{input:List Int}{m:Me}{a b c n:Int}{args:List Int}{fr:Rf}{h:Hp}:rstep f input m ⟨23,a,b,c,n,args⟩ fr h=rkind (rd fr a) b h ((emit (rd fr a) b h).act fun _ h=>rgo fr (fr.at_+1) h):=rfl
theorem rt24 {f:Fi}{input:List Int}{m:Me}{a b c n:Int}{args:List Int}{fr:Rf}{h:Hp}:rstep f input m ⟨24,a,b,c,n,args⟩ fr h=(takeIn input h).act fun v h=>rset fr a v h:=rfl
end
end Hpr
namespace Hpr
open Num Rd D Run Mem HierW Hpw
section
variable {E:Ev}{w w' w1 w2:World}{L L' L1:Lay}{h h' h1 h2:Hp}{d:Nat}{P:PS}{m:Me}{vs vs1:Value}{rg:List Vl}{ap:Nat}
set_option maxRecDepth 100000 in
theorem pl1 (S:ST E w L P m d h ⟨rg,ap,Vl.nil,Vl.nil⟩ vs) (hP:Paired rg) (h1000:rg.length≤1000) (a b c n:Int) (args:List Int) (sa:Option Addr) (sn sc:Nat) (ha0:0≤a) (haw:a.toNat+1≤rg.length) :
  Calls Try.prog 77 #[.pointer (some ⟨P.cb,0,none⟩),.agg #[.int .i64 1,.int .i64 a,.int .i64 b,.int .i64 c,.int .i64 n,.slice sa sn sc]] w (PlR E L P m d vs ⟨rg,ap,Vl.nil,Vl.nil⟩ (.tuple #[]) w (oA (rstep E.f E.input m ⟨1,a,b,c,n,args⟩ ⟨rg,ap,Vl.nil,Vl.nil⟩ h))):=by
 obtain ⟨ka,rfl⟩:∃ k:Nat,a=(k:Int):=⟨a.toNat,by omega⟩
 rw [rt1]
 have HS:=Lib.hid S
 have hcb:=S.cbw
 have hcb1:P.cb < w.heap.size+1:=by omega
 have nf:=S.fo_new (Nat.le_refl _)
 have c0:w.cell? ⟨P.cb,0,none⟩=some (.pointer (some ⟨E.hb,0,none⟩)):=S.c0
 have c9:w.cell? ⟨P.cb,9,none⟩=some (.slice (some ⟨P.lb,0,none⟩) rg.length rg.length):=S.c9
 have hfl:=fieldN
 clear S
 go_enter Try.func77,Try.ntmps77
 go_wp2_with (go_at_call 106;refine (writeR (HS.out.below (by exact Rd.byB)) hP ka ⟨1,n⟩ (by simp [width] at haw ⊢;exact haw) h1000).mono ?_;rintro e w2 ⟨rfl,A⟩)
 go_end0
 exact plr_goE rfl (Gr.of_below (by exact Rd.byB)) A
set_option maxRecDepth 100000 in
theorem pl2 (S:ST E w L P m d h ⟨rg,ap,Vl.nil,Vl.nil⟩ vs) (hP:Paired rg) (h1000:rg.length≤1000) (a b c n:Int) (args:List Int) (sa:Option Addr) (sn sc:Nat) (ha0:0≤a) (haw:a.toNat+2≤rg.length) :
  Calls Try.prog 77 #[.pointer (some ⟨P.cb,0,none⟩),.agg #[.int .i64 2,.int .i64 a,.int .i64 b,.int .i64 c,.int .i64 n,.slice sa sn sc]] w (PlR E L P m d vs ⟨rg,ap,Vl.nil,Vl.nil⟩ (.tuple #[]) w (oA (rstep E.f E.input m ⟨2,a,b,c,n,args⟩ ⟨rg,ap,Vl.nil,Vl.nil⟩ h))):=by
 obtain ⟨ka,rfl⟩:∃ k:Nat,a=(k:Int):=⟨a.toNat,by omega⟩
 rw [rt2]
 have HS:=Lib.hid S
 have hcb:=S.cbw
 have hcb1:P.cb < w.heap.size+1:=by omega
 have nf:=S.fo_new (Nat.le_refl _)
 have c0:w.cell? ⟨P.cb,0,none⟩=some (.pointer (some ⟨E.hb,0,none⟩)):=S.c0
 have c9:w.cell? ⟨P.cb,9,none⟩=some (.slice (some ⟨P.lb,0,none⟩) rg.length rg.length):=S.c9
 have hfl:=fieldN
 clear S
 go_enter Try.func77,Try.ntmps77
 go_wp2_with (go_at_call 106;refine (writeR (HS.out.below (by exact Rd.byB)) hP ka ⟨2,n⟩ (by simp [width] at haw ⊢;exact haw) h1000).mono ?_;rintro e w2 ⟨rfl,A⟩)
 go_end0
 exact plr_goE rfl (Gr.of_below (by exact Rd.byB)) A
set_option maxRecDepth 100000 in
theorem pl3 (S:ST E w L P m d h ⟨rg,ap,Vl.nil,Vl.nil⟩ vs) (hP:Paired rg) (h1000:rg.length≤1000) (a b c n:Int) (args:List Int) (sa:Option Addr) (sn sc:Nat) (ha0:0≤a) (haw:a.toNat+1≤rg.length) :
  Calls Try.prog 77 #[.pointer (some ⟨P.cb,0,none⟩),.agg #[.int .i64 3,.int .i64 a,.int .i64 b,.int .i64 c,.int .i64 n,.slice sa sn sc]] w (PlR E L P m d vs ⟨rg,ap,Vl.nil,Vl.nil⟩ (.tuple #[]) w (oA (rstep E.f E.input m ⟨3,a,b,c,n,args⟩ ⟨rg,ap,Vl.nil,Vl.nil⟩ h))):=by
 obtain ⟨ka,rfl⟩:∃ k:Nat,a=(k:Int):=⟨a.toNat,by omega⟩
 rw [rt3]
 have HS:=Lib.hid S
 have hcb:=S.cbw
 have hcb1:P.cb < w.heap.size+1:=by omega
 have nf:=S.fo_new (Nat.le_refl _)
 have c0:w.cell? ⟨P.cb,0,none⟩=some (.pointer (some ⟨E.hb,0,none⟩)):=S.c0
 have c9:w.cell? ⟨P.cb,9,none⟩=some (.slice (some ⟨P.lb,0,none⟩) rg.length rg.length):=S.c9
 have hfl:=fieldN
 clear S
 go_enter Try.func77,Try.ntmps77
 go_wp2_with (go_at_call 106;refine (writeR (HS.out.below (by exact Rd.byB)) hP ka ⟨3,-1⟩ (by simp [width] at haw ⊢;exact haw) h1000).mono ?_;rintro e w2 ⟨rfl,A⟩)
 go_end0
 exact plr_goE rfl (Gr.of_below (by exact Rd.byB)) A
set_option maxRecDepth 100000 in
theorem pl7 (S:ST E w L P m d h ⟨rg,ap,Vl.nil,Vl.nil⟩ vs) (hP:Paired rg) (h1000:rg.length≤1000) (a b c n:Int) (args:List Int) (sa:Option Addr) (sn sc:Nat) (ha0:0≤a) (haw:a.toNat+2≤rg.length) (hb0:0≤b) (hb':b.toNat < rg.length) :
  Calls Try.prog 77 #[.pointer (some ⟨P.cb,0,none⟩),.agg #[.int .i64 7,.int .i64 a,.int .i64 b,.int .i64 c,.int .i64 n,.slice sa sn sc]] w (PlR E L P m d vs ⟨rg,ap,Vl.nil,Vl.nil⟩ (.tuple #[]) w (oA (rstep E.f E.input m ⟨7,a,b,c,n,args⟩ ⟨rg,ap,Vl.nil,Vl.nil⟩ h))):=by
 obtain ⟨ka,rfl⟩:∃ k:Nat,a=(k:Int):=⟨a.toNat,by omega⟩
 obtain ⟨kb,rfl⟩:∃ k:Nat,b=(k:Int):=⟨b.toNat,by omega⟩
 obtain ⟨⟨bk,bn⟩,hxb⟩:∃ x,Hid (rg.getD kb Vl.nil=x):=⟨_,Lib.hid rfl⟩
 have hrb:rd ⟨rg,ap,Vl.nil,Vl.nil⟩ (kb:Int)=⟨bk,bn⟩:=by unfold rd;rw [Int.toNat_natCast];exact hxb.out
 rw [rt7,hrb]
 simp only [Int.toNat_natCast] at hb' haw
 have HS:=Lib.hid S
 have hcb:=S.cbw
 have hcb1:P.cb < w.heap.size+1:=by omega
 have nf:=S.fo_new (Nat.le_refl _)
 have c0:w.cell? ⟨P.cb,0,none⟩=some (.pointer (some ⟨E.hb,0,none⟩)):=S.c0
 have c9:w.cell? ⟨P.cb,9,none⟩=some (.slice (some ⟨P.lb,0,none⟩) rg.length rg.length):=S.c9
 have hfl:=fieldN
 clear S
 go_enter Try.func77,Try.ntmps77
 go_wp2_with fail
 refine Drawn.hd (fun w'=>w'.cell? ⟨w.heap.size,1,none⟩=some (.int .i64 ka)∧w'.cell? ⟨w.heap.size,2,none⟩=some (.int .i64 kb)) (h:=fun hHeld=>?_)
 refine Drawn.T 0 (some 94) (h:=?_)
 refine Drawn.T 1 (some 95) (h:=?_)
 refine Drawn.T 2 (some 96) (h:=?_)
 refine Drawn.T 3 (some 97) (h:=?_)
 refine Drawn.T 4 (some 98) (h:=?_)
 refine Drawn.T 5 (some 99) (h:=?_)
 refine Drawn.cl 6 (fun K hK=>?_)
 go_simp
 refine (readR (HS.out.below (by exact Rd.byB)) kb hb' h1000 ⟨bk,bn⟩ hxb.out 1).mono ?_
 rintro e w2 ⟨⟨qb,rfl⟩ | ⟨qb,rfl⟩,hb⟩
 ·simp only at qb
  subst qb
  have kk:∀ (b o:Nat) (u:Value),World.cell? _ ⟨b,o,none⟩=some u→w2.cell? ⟨b,o,none⟩=some u:=fun b o u hc=>kept hb (cell_lt hc) hc
  have yw2_0:=kk (w.heap.size) (1) (.int .i64 ka) (by go_simp)
  have yw2_1:=kk (w.heap.size) (2) (.int .i64 kb) (by go_simp)
  clear kk
  have HBw2:=Lib.hid (show Below w.heap.size w w2 from Below.trans (by exact Rd.byB) (hb.mono Rd.byL))
  clear hb
  go_wp2_with fail
  refine Drawn.bk hK (hS:=by (try dsimp only);exact ⟨yw2_0,yw2_1⟩) (h:=fun hHeld=>?_)
  clear hK K
  refine Drawn.T 7 (some 101) (h:=?_)
  refine Drawn.cl 8 (fun K hK=>?_)
  go_simp
  refine (writeR (HS.out.below HBw2.out) hP ka ⟨2,bn⟩ (by simp [width] at haw ⊢;exact haw) h1000).mono ?_
  rintro e w3 ⟨rfl,A⟩
  have g1:=A.box (b:=w.heap.size) (o:=1) (v:=.int .i64 ka) (by go_simp) nf
  have g2:=A.box (b:=w.heap.size) (o:=2) (v:=.int .i64 kb) (by go_simp) nf
  go_wp2_with fail
  refine Drawn.bk hK (hS:=by (try dsimp only);exact ⟨g1,g2⟩) (h:=fun hHeld=>?_)
  clear hK K
  refine wpAnyH_done (by kernel_rfl) ?_ _
  go_wp2
  go_end0
  exact plr_goE (by unfold rkind;rw [if_pos rfl];rfl) (Gr.of_below HBw2.out) A
 ·have HBw2:=Lib.hid (show Below w.heap.size w w2 from Below.trans (by exact Rd.byB) (hb.mono Rd.byL))
  unfold pan
  refine And.intro rfl ?_
  exact plr_stuckE (by simp [rkind,qb,oA]) (Gr.of_below (by exact HBw2.out)) (HS.out.below HBw2.out)
set_option maxRecDepth 100000 in
theorem pl8 (S:ST E w L P m d h ⟨rg,ap,Vl.nil,Vl.nil⟩ vs) (hP:Paired rg) (h1000:rg.length≤1000) (a b c n:Int) (args:List Int) (sa:Option Addr) (sn sc:Nat) (ha0:0≤a) (haw:a.toNat+1≤rg.length) (hb0:0≤b) (hb':b.toNat < rg.length) :
  Calls Try.prog 77 #[.pointer (some ⟨P.cb,0,none⟩),.agg #[.int .i64 8,.int .i64 a,.int .i64 b,.int .i64 c,.int .i64 n,.slice sa sn sc]] w (PlR E L P m d vs ⟨rg,ap,Vl.nil,Vl.nil⟩ (.tuple #[]) w (oA (rstep E.f E.input m ⟨8,a,b,c,n,args⟩ ⟨rg,ap,Vl.nil,Vl.nil⟩ h))):=by
 obtain ⟨ka,rfl⟩:∃ k:Nat,a=(k:Int):=⟨a.toNat,by omega⟩
 obtain ⟨kb,rfl⟩:∃ k:Nat,b=(k:Int):=⟨b.toNat,by omega⟩
 obtain ⟨⟨bk,bn⟩,hxb⟩:∃ x,Hid (rg.getD kb Vl.nil=x):=⟨_,Lib.hid rfl⟩
 have hrb:rd ⟨rg,ap,Vl.nil,Vl.nil⟩ (kb:Int)=⟨bk,bn⟩:=by unfold rd;rw [Int.toNat_natCast];exact hxb.out
 rw [rt8,hrb]
 simp only [Int.toNat_natCast] at hb' haw
 have HS:=Lib.hid S
 have hcb:=S.cbw
 have hcb1:P.cb < w.heap.size+1:=by omega
 have nf:=S.fo_new (Nat.le_refl _)
 have c0:w.cell? ⟨P.cb,0,none⟩=some (.pointer (some ⟨E.hb,0,none⟩)):=S.c0
 have c9:w.cell? ⟨P.cb,9,none⟩=some (.slice (some ⟨P.lb,0,none⟩) rg.length rg.length):=S.c9
 have hfl:=fieldN
 clear S
 go_enter Try.func77,Try.ntmps77
 go_wp2_with fail
 refine Drawn.hd (fun w'=>w'.cell? ⟨w.heap.size,1,none⟩=some (.int .i64 ka)∧w'.cell? ⟨w.heap.size,2,none⟩=some (.int .i64 kb)) (h:=fun hHeld=>?_)
 refine Drawn.T 0 (some 105) (h:=?_)
 refine Drawn.T 1 (some 106) (h:=?_)
 refine Drawn.T 2 (some 107) (h:=?_)
 refine Drawn.T 3 (some 108) (h:=?_)
 refine Drawn.T 4 (some 109) (h:=?_)
 refine Drawn.T 5 (some 110) (h:=?_)
 refine Drawn.cl 6 (fun K hK=>?_)
 go_simp
 refine (readR (HS.out.below (by exact Rd.byB)) kb hb' h1000 ⟨bk,bn⟩ hxb.out 2).mono ?_
 rintro e w2 ⟨⟨qb,rfl⟩ | ⟨qb,rfl⟩,hb⟩
 ·simp only at qb
  subst qb
  have kk:∀ (b o:Nat) (u:Value),World.cell? _ ⟨b,o,none⟩=some u→w2.cell? ⟨b,o,none⟩=some u:=fun b o u hc=>kept hb (cell_lt hc) hc
  have yw2_0:=kk (w.heap.size) (1) (.int .i64 ka) (by go_simp)
  have yw2_1:=kk (w.heap.size) (2) (.int .i64 kb) (by go_simp)
  clear kk
  have HBw2:=Lib.hid (show Below w.heap.size w w2 from Below.trans (by exact Rd.byB) (hb.mono Rd.byL))
  clear hb
  go_wp2_with fail
  refine Drawn.bk hK (hS:=by (try dsimp only);exact ⟨yw2_0,yw2_1⟩) (h:=fun hHeld=>?_)
  clear hK K
  refine Drawn.T 7 (some 112) (h:=?_)
  refine Drawn.cl 8 (fun K hK=>?_)
  go_simp
  refine (NumW.narrow _ _).mono ?_
  rintro e w9 ⟨rfl,rfl⟩
  go_wp2_with fail
  refine Drawn.bk hK (hS:=by (try dsimp only);exact ⟨yw2_0,yw2_1⟩) (h:=fun hHeld=>?_)
  clear hK K
  refine Drawn.cl 9 (fun K hK=>?_)
  go_simp
  refine (writeR (HS.out.below HBw2.out) hP ka ⟨1,wrap32 bn⟩ (by simp [width] at haw ⊢;exact haw) h1000).mono ?_
  rintro e w3 ⟨rfl,A⟩
  have g1:=A.box (b:=w.heap.size) (o:=1) (v:=.int .i64 ka) (by go_simp) nf
  have g2:=A.box (b:=w.heap.size) (o:=2) (v:=.int .i64 kb) (by go_simp) nf
  go_wp2_with fail
  refine Drawn.bk hK (hS:=by (try dsimp only);exact ⟨g1,g2⟩) (h:=fun hHeld=>?_)
  clear hK K
  refine wpAnyH_done (by kernel_rfl) ?_ _
  go_wp2
  go_end0
  exact plr_goE (by unfold rkind;rw [if_pos rfl];rfl) (Gr.of_below HBw2.out) A
 ·have HBw2:=Lib.hid (show Below w.heap.size w w2 from Below.trans (by exact Rd.byB) (hb.mono Rd.byL))
  unfold pan
  refine And.intro rfl ?_
  exact plr_stuckE (by simp [rkind,qb,oA]) (Gr.of_below (by exact HBw2.out)) (HS.out.below HBw2.out)
end
end Hpr
namespace Hpr
open Num Rd D Run Mem HierW Hpw
section
variable {E:Ev}{w w' w1 w2:World}{L L' L1:Lay}{h h' h1 h2:Hp}{d:Nat}{P:PS}{m:Me}{vs vs1:Value}{rg:List Vl}{ap:Nat}
set_option maxRecDepth 100000 in
theorem pl4 (S:ST E w L P m d h ⟨rg,ap,Vl.nil,Vl.nil⟩ vs) (hP:Paired rg) (h1000:rg.length≤1000) (a b c n:Int) (args:List Int) (sa:Option Addr) (sn sc:Nat) (ha0:0≤a) (haw:(rd ⟨rg,ap,Vl.nil,Vl.nil⟩ b).kind=c→a.toNat+width (rd ⟨rg,ap,Vl.nil,Vl.nil⟩ b)≤rg.length) (hb0:0≤b) (hb':b.toNat < rg.length) :
  Calls Try.prog 77 #[.pointer (some ⟨P.cb,0,none⟩),.agg #[.int .i64 4,.int .i64 a,.int .i64 b,.int .i64 c,.int .i64 n,.slice sa sn sc]] w (PlR E L P m d vs ⟨rg,ap,Vl.nil,Vl.nil⟩ (.tuple #[]) w (oA (rstep E.f E.input m ⟨4,a,b,c,n,args⟩ ⟨rg,ap,Vl.nil,Vl.nil⟩ h))):=by
 obtain ⟨ka,rfl⟩:∃ k:Nat,a=(k:Int):=⟨a.toNat,by omega⟩
 obtain ⟨kb,rfl⟩:∃ k:Nat,b=(k:Int):=⟨b.toNat,by omega⟩
 obtain ⟨⟨bk,bn⟩,hxb⟩:∃ x,Hid (rg.getD kb Vl.nil=x):=⟨_,Lib.hid rfl⟩
 have hrb:rd ⟨rg,ap,Vl.nil,Vl.nil⟩ (kb:Int)=⟨bk,bn⟩:=by unfold rd;rw [Int.toNat_natCast];exact hxb.out
 rw [rt4]
 rw [hrb] at haw ⊢
 simp only [Int.toNat_natCast] at haw hb'
 have HS:=Lib.hid S
 have hcb:=S.cbw
 have hcb1:P.cb < w.heap.size+1:=by omega
 have nf:=S.fo_new (Nat.le_refl _)
 have c0:w.cell? ⟨P.cb,0,none⟩=some (.pointer (some ⟨E.hb,0,none⟩)):=S.c0
 have c9:w.cell? ⟨P.cb,9,none⟩=some (.slice (some ⟨P.lb,0,none⟩) rg.length rg.length):=S.c9
 have hfl:=fieldN
 clear S
 go_enter Try.func77,Try.ntmps77
 go_wp2_with fail
 refine Drawn.hd (fun w'=>w'.cell? ⟨P.cb,9,none⟩=some (.slice (some ⟨P.lb,0,none⟩) rg.length rg.length)∧w'.cell? ⟨w.heap.size,1,none⟩=some (.int .i64 ka)∧w'.cell? ⟨w.heap.size,2,none⟩=some (.int .i64 kb)∧w'.cell? ⟨w.heap.size,3,none⟩=some (.int .i64 c)) (h:=fun hHeld=>?_)
 refine Drawn.T 0 (some 31) (h:=?_)
 refine Drawn.T 1 (some 32) (h:=?_)
 refine Drawn.T 2 (some 33) (h:=?_)
 refine Drawn.T 3 (some 34) (h:=?_)
 refine Drawn.T 4 (some 35) (h:=?_)
 refine Drawn.T 5 (some 36) (h:=?_)
 refine Drawn.T 6 (some 37) (h:=?_)
 refine Drawn.T 7 (some 38) (h:=?_)
 refine Drawn.T 8 (some 39) (h:=?_)
 refine Drawn.T 9 (some 40) (h:=?_)
 refine Drawn.T 10 (some 41) (h:=?_)
 refine Drawn.cl 11 (fun K hK=>?_)
 go_simp
 refine (readR (HS.out.below (by exact Rd.byB)) kb hb' h1000 ⟨bk,bn⟩ hxb.out c).mono ?_
 rintro e w1 ⟨⟨qb,rfl⟩ | ⟨qb,rfl⟩,hb⟩
 ·simp only at qb
  have rb:=Lib.hid qb
  clear qb
  have kk:∀ (b o:Nat) (u:Value),World.cell? _ ⟨b,o,none⟩=some u→w1.cell? ⟨b,o,none⟩=some u:=fun b o u hc=>kept hb (cell_lt hc) hc
  have yw1_0:=kk (P.cb) (9) (.slice (some ⟨P.lb,0,none⟩) rg.length rg.length) (by go_simp)
  have yw1_1:=kk (w.heap.size) (1) (.int .i64 ka) (by go_simp)
  have yw1_2:=kk (w.heap.size) (2) (.int .i64 kb) (by go_simp)
  have yw1_3:=kk (w.heap.size) (3) (.int .i64 c) (by go_simp)
  clear kk
  have Hw1:=Lib.hid (show Below w.heap.size w w1 from Below.trans (by exact Rd.byB) (hb.mono Rd.byL))
  clear hb
  go_wp2_with fail
  refine Drawn.bk hK (hS:=by (try dsimp only);exact ⟨yw1_0,yw1_1,yw1_2,yw1_3⟩) (h:=fun hHeld=>?_)
  clear hK K
  refine Drawn.cl 12 (fun K hK=>?_)
  go_simp
  refine (storeR (HS.out.below Hw1.out) hP ka ⟨bk,bn⟩ (haw rb.out) h1000).mono ?_
  rintro e w2 ⟨rfl,A⟩
  obtain ⟨L70,v70,G70,S70⟩:=A.opn
  have u0:w2.cell? ⟨P.cb,9,none⟩=some (.slice (some ⟨P.lb,0,none⟩) rg.length rg.length):=by have:=S70.c9;rw [Run.store_len] at this;exact this
  have u1:=A.box (b:=w.heap.size) (o:=1) (v:=.int .i64 ka) (by go_simp) nf
  have u2:=A.box (b:=w.heap.size) (o:=2) (v:=.int .i64 kb) (by go_simp) nf
  have u3:=A.box (b:=w.heap.size) (o:=3) (v:=.int .i64 c) (by go_simp) nf
  go_wp2_with fail
  refine Drawn.bk hK (hS:=by (try dsimp only);exact ⟨u0,u1,u2,u3⟩) (h:=fun hHeld=>?_)
  clear hK K
  refine wpAnyH_done (by kernel_rfl) ?_ _
  go_wp2
  go_end0
  exact plr_goE (by unfold rkind;rw [if_pos rb.out];rfl) (Gr.of_below Hw1.out) A
 ·have Hw1:=Lib.hid (show Below w.heap.size w w1 from Below.trans (by exact Rd.byB) (hb.mono Rd.byL))
  unfold pan
  refine And.intro rfl ?_
  exact plr_stuckE (by simp [rkind,qb,oA]) (Gr.of_below Hw1.out) (HS.out.below Hw1.out)
set_option maxRecDepth 100000 in
theorem pl5 (S:ST E w L P m d h ⟨rg,ap,Vl.nil,Vl.nil⟩ vs) (hP:Paired rg) (h1000:rg.length≤1000) (a b c n:Int) (args:List Int) (sa:Option Addr) (sn sc:Nat) (hm:Hier.may E.f.classes=true) (ha0:0≤a) (hb0:0≤b) (hb':b.toNat < rg.length) (hc0:0≤c) (hc':c.toNat < rg.length) (hok:Ok (rd ⟨rg,ap,Vl.nil,Vl.nil⟩ b).n) (hw:∀ v h',Run.reckon E.f.classes (rd ⟨rg,ap,Vl.nil,Vl.nil⟩ b) (rd ⟨rg,ap,Vl.nil,Vl.nil⟩ c) 1 n h=.ok v h'→a.toNat+width v≤rg.length) :
  Calls Try.prog 77 #[.pointer (some ⟨P.cb,0,none⟩),.agg #[.int .i64 5,.int .i64 a,.int .i64 b,.int .i64 c,.int .i64 n,.slice sa sn sc]] w (PlR E L P m d vs ⟨rg,ap,Vl.nil,Vl.nil⟩ (.tuple #[]) w (oA (rstep E.f E.input m ⟨5,a,b,c,n,args⟩ ⟨rg,ap,Vl.nil,Vl.nil⟩ h))):=by
 obtain ⟨ka,rfl⟩:∃ k:Nat,a=(k:Int):=⟨a.toNat,by omega⟩
 obtain ⟨kb,rfl⟩:∃ k:Nat,b=(k:Int):=⟨b.toNat,by omega⟩
 obtain ⟨kc,rfl⟩:∃ k:Nat,c=(k:Int):=⟨c.toNat,by omega⟩
 obtain ⟨⟨bk,bn⟩,hxb⟩:∃ x,Hid (rg.getD kb Vl.nil=x):=⟨_,Lib.hid rfl⟩
 have hrb:rd ⟨rg,ap,Vl.nil,Vl.nil⟩ (kb:Int)=⟨bk,bn⟩:=by unfold rd;rw [Int.toNat_natCast];exact hxb.out
 obtain ⟨⟨ck,cn⟩,hxc⟩:∃ x,Hid (rg.getD kc Vl.nil=x):=⟨_,Lib.hid rfl⟩
 have hrc:rd ⟨rg,ap,Vl.nil,Vl.nil⟩ (kc:Int)=⟨ck,cn⟩:=by unfold rd;rw [Int.toNat_natCast];exact hxc.out
 rw [rt5]
 rw [hrb] at hok
 rw [hrb,hrc] at hw ⊢
 simp only [Int.toNat_natCast] at hw hb' hc'
 obtain ⟨r,hr⟩:∃ r,Hid (Run.reckon E.f.classes ⟨bk,bn⟩ ⟨ck,cn⟩ 1 n h=r):=⟨_,Lib.hid rfl⟩
 rw [hr.out]
 replace hw:=Lib.hid hw
 have HS:=Lib.hid S
 have hcb:=S.cbw
 have hcb1:P.cb < w.heap.size+1:=by omega
 have nf:=S.fo_new (Nat.le_refl _)
 have c0:w.cell? ⟨P.cb,0,none⟩=some (.pointer (some ⟨E.hb,0,none⟩)):=S.c0
 have c9:w.cell? ⟨P.cb,9,none⟩=some (.slice (some ⟨P.lb,0,none⟩) rg.length rg.length):=S.c9
 have hfl:=fieldN
 clear S
 go_enter Try.func77,Try.ntmps77
 go_wp2_with fail
 refine Drawn.hd (fun w'=>w'.cell? ⟨P.cb,0,none⟩=some (.pointer (some ⟨E.hb,0,none⟩))∧w'.cell? ⟨P.cb,9,none⟩=some (.slice (some ⟨P.lb,0,none⟩) rg.length rg.length)∧w'.cell? ⟨w.heap.size,1,none⟩=some (.int .i64 ka)∧w'.cell? ⟨w.heap.size,2,none⟩=some (.int .i64 kb)∧w'.cell? ⟨w.heap.size,3,none⟩=some (.int .i64 kc)∧w'.cell? ⟨w.heap.size,4,none⟩=some (.int .i64 n)) (h:=fun hHeld=>?_)
 refine Drawn.T 0 (some 46) (h:=?_)
 refine Drawn.T 1 (some 47) (h:=?_)
 refine Drawn.T 2 (some 48) (h:=?_)
 refine Drawn.T 3 (some 49) (h:=?_)
 refine Drawn.T 4 (some 50) (h:=?_)
 refine Drawn.T 5 (some 51) (h:=?_)
 refine Drawn.T 6 (some 52) (h:=?_)
 refine Drawn.T 7 (some 53) (h:=?_)
 refine Drawn.T 8 (some 54) (h:=?_)
 refine Drawn.T 9 (some 55) (h:=?_)
 refine Drawn.T 10 (some 56) (h:=?_)
 refine Drawn.T 11 (some 57) (h:=?_)
 refine Drawn.T 12 (some 58) (h:=?_)
 refine Drawn.T 14 (some 60) (h:=?_)
 refine Drawn.T 15 (some 61) (h:=?_)
 refine Drawn.T 16 (some 62) (h:=?_)
 refine Drawn.T 18 (some 64) (h:=?_)
 refine Drawn.T 19 (some 65) (h:=?_)
 refine Drawn.cl 13 (fun K hK=>?_)
 go_simp
 refine (readR (HS.out.below (by exact Rd.byB)) kb hb' h1000 ⟨bk,bn⟩ hxb.out 1).mono ?_
 rintro e w3 ⟨⟨qb,rfl⟩ | ⟨qb,rfl⟩,hb⟩
 ·simp only at qb
  have rb:=Lib.hid qb
  clear qb
  have kk:∀ (b o:Nat) (u:Value),World.cell? _ ⟨b,o,none⟩=some u→w3.cell? ⟨b,o,none⟩=some u:=fun b o u hc=>kept hb (cell_lt hc) hc
  have yw3_0:=kk (P.cb) (0) (.pointer (some ⟨E.hb,0,none⟩)) (by go_simp)
  have yw3_1:=kk (P.cb) (9) (.slice (some ⟨P.lb,0,none⟩) rg.length rg.length) (by go_simp)
  have yw3_2:=kk (w.heap.size) (1) (.int .i64 ka) (by go_simp)
  have yw3_3:=kk (w.heap.size) (2) (.int .i64 kb) (by go_simp)
  have yw3_4:=kk (w.heap.size) (3) (.int .i64 kc) (by go_simp)
  have yw3_5:=kk (w.heap.size) (4) (.int .i64 n) (by go_simp)
  clear kk
  have Hw3:=Lib.hid (show Below w.heap.size w w3 from Below.trans (by exact Rd.byB) (hb.mono Rd.byL))
  clear hb
  go_wp2_with fail
  refine Drawn.bk hK (hS:=by (try dsimp only);exact ⟨yw3_0,yw3_1,yw3_2,yw3_3,yw3_4,yw3_5⟩) (h:=fun hHeld=>?_)
  clear hK K
  refine Drawn.cl 17 (fun K hK=>?_)
  go_simp
  refine (readR (HS.out.below Hw3.out) kc hc' h1000 ⟨ck,cn⟩ hxc.out 1).mono ?_
  rintro e w4 ⟨⟨qc,rfl⟩ | ⟨qc,rfl⟩,hb⟩
  ·simp only at qc
   have rc:=Lib.hid qc
   clear qc
   have kk:∀ (b o:Nat) (u:Value),World.cell? _ ⟨b,o,none⟩=some u→w4.cell? ⟨b,o,none⟩=some u:=fun b o u hc=>kept hb (cell_lt hc) hc
   have yw4_0:=kk (P.cb) (0) (.pointer (some ⟨E.hb,0,none⟩)) (by go_simp)
   have yw4_1:=kk (P.cb) (9) (.slice (some ⟨P.lb,0,none⟩) rg.length rg.length) (by go_simp)
   have yw4_2:=kk (w.heap.size) (1) (.int .i64 ka) (by go_simp)
   have yw4_3:=kk (w.heap.size) (2) (.int .i64 kb) (by go_simp)
   have yw4_4:=kk (w.heap.size) (3) (.int .i64 kc) (by go_simp)
   have yw4_5:=kk (w.heap.size) (4) (.int .i64 n) (by go_simp)
   clear kk
   have Hw4:=Lib.hid (show Below w.heap.size w w4 from Hw3.out.trans (Below.trans (by exact Rd.byB) (hb.mono (by have:=Hw3.out.size;first | exact this | (simp;omega)))))
   clear hb
   go_wp2_with fail
   refine Drawn.bk hK (hS:=by (try dsimp only);exact ⟨yw4_0,yw4_1,yw4_2,yw4_3,yw4_4,yw4_5⟩) (h:=fun hHeld=>?_)
   clear hK K
   refine Drawn.cl 20 (fun K hK=>?_)
   go_simp
   refine (reckonI (HS.out.below Hw4.out).H hm ⟨bk,bn⟩ ⟨ck,cn⟩ n hok).mono ?_
   rw [hr.out]
   rintro e w5 hR
   cases r with
   | thrown o h2 =>
    obtain ⟨rfl,A⟩:=hR
    obtain ⟨L5,G5,S5⟩:=Gr.of_heap A (HS.out.below Hw4.out)
    unfold pan
    refine And.intro rfl ?_
    exact plr_thrown ((Gr.of_below Hw4.out).trans G5) S5
   | stop c2 h2 =>
    obtain ⟨rfl,A⟩:=hR
    obtain ⟨L5,G5,S5⟩:=Gr.of_heap A (HS.out.below Hw4.out)
    unfold pan
    refine And.intro rfl ?_
    exact plr_stop ((Gr.of_below Hw4.out).trans G5) S5
   | ok x h2 =>
    obtain ⟨xk,xn⟩:=x
    obtain ⟨rfl,A⟩:=hR
    unfold vval
    obtain ⟨L5,G5,S5⟩:=Gr.of_heap A (HS.out.below Hw4.out)
    have z0:w5.cell? ⟨P.cb,0,none⟩=some (.pointer (some ⟨E.hb,0,none⟩)):=S5.c0
    have z1:w5.cell? ⟨P.cb,9,none⟩=some (.slice (some ⟨P.lb,0,none⟩) rg.length rg.length):=S5.c9
    have z2:=G5.cell (b:=w.heap.size) (o:=1) (v:=.int .i64 ka) nf (by go_simp)
    have z3:=G5.cell (b:=w.heap.size) (o:=2) (v:=.int .i64 kb) nf (by go_simp)
    have z4:=G5.cell (b:=w.heap.size) (o:=3) (v:=.int .i64 kc) nf (by go_simp)
    have z5:=G5.cell (b:=w.heap.size) (o:=4) (v:=.int .i64 n) nf (by go_simp)
    have nf5:=G5.nf (by have:=cell_lt yw4_2;first | exact this | (simp;omega)) nf
    have GB:=Lib.hid ((Gr.of_below Hw4.out).trans G5)
    replace S5:=Lib.hid S5
    clear A G5
    go_wp2_with fail
    refine Drawn.bk hK (hS:=by (try dsimp only);exact ⟨z0,z1,z2,z3,z4,z5⟩) (h:=fun hHeld=>?_)
    clear hK K
    refine Drawn.cl 21 (fun K hK=>?_)
    go_simp
    refine (storeR S5.out hP ka ⟨xk,xn⟩ (hw.out _ _ hr.out) h1000).mono ?_
    rintro e w6 ⟨rfl,A⟩
    obtain ⟨L70,v70,G70,S70⟩:=A.opn
    have u0:w6.cell? ⟨P.cb,0,none⟩=some (.pointer (some ⟨E.hb,0,none⟩)):=S70.c0
    obtain ⟨L71,v71,G71,S71⟩:=A.opn
    have u1:w6.cell? ⟨P.cb,9,none⟩=some (.slice (some ⟨P.lb,0,none⟩) rg.length rg.length):=by have:=S71.c9;rw [Run.store_len] at this;exact this
    have u2:=A.box (b:=w.heap.size) (o:=1) (v:=.int .i64 ka) (by go_simp) nf5
    have u3:=A.box (b:=w.heap.size) (o:=2) (v:=.int .i64 kb) (by go_simp) nf5
    have u4:=A.box (b:=w.heap.size) (o:=3) (v:=.int .i64 kc) (by go_simp) nf5
    have u5:=A.box (b:=w.heap.size) (o:=4) (v:=.int .i64 n) (by go_simp) nf5
    go_wp2_with fail
    refine Drawn.bk hK (hS:=by (try dsimp only);exact ⟨u0,u1,u2,u3,u4,u5⟩) (h:=fun hHeld=>?_)
    clear hK K
    refine wpAnyH_done (by kernel_rfl) ?_ _
    go_wp2
    go_end0
    exact plr_goE (by rfl) GB.out A
  ·have Hw4:=Lib.hid (show Below w.heap.size w w4 from Hw3.out.trans (Below.trans (by exact Rd.byB) (hb.mono (by have:=Hw3.out.size;first | exact this | (simp;omega)))))
   unfold pan
   refine And.intro rfl ?_
   exact plr_stuckE (by rw [← hr.out];simp [Run.reckon,qc,oA,Res.act]) (Gr.of_below Hw4.out) (HS.out.below Hw4.out)
 ·have Hw3:=Lib.hid (show Below w.heap.size w w3 from Below.trans (by exact Rd.byB) (hb.mono Rd.byL))
  unfold pan
  refine And.intro rfl ?_
  exact plr_stuckE (by rw [← hr.out];simp [Run.reckon,qb,oA,Res.act]) (Gr.of_below Hw3.out) (HS.out.below Hw3.out)
set_option maxRecDepth 100000 in
theorem pl6 (S:ST E w L P m d h ⟨rg,ap,Vl.nil,Vl.nil⟩ vs) (hP:Paired rg) (h1000:rg.length≤1000) (a b c n:Int) (args:List Int) (sa:Option Addr) (sn sc:Nat) (hm:Hier.may E.f.classes=true) (ha0:0≤a) (hb0:0≤b) (hb':b.toNat < rg.length) (hc0:0≤c) (hc':c.toNat < rg.length) (hok:Ok (rd ⟨rg,ap,Vl.nil,Vl.nil⟩ b).n) (hw:∀ v h',Run.reckon E.f.classes (rd ⟨rg,ap,Vl.nil,Vl.nil⟩ b) (rd ⟨rg,ap,Vl.nil,Vl.nil⟩ c) 2 n h=.ok v h'→a.toNat+width v≤rg.length) :
  Calls Try.prog 77 #[.pointer (some ⟨P.cb,0,none⟩),.agg #[.int .i64 6,.int .i64 a,.int .i64 b,.int .i64 c,.int .i64 n,.slice sa sn sc]] w (PlR E L P m d vs ⟨rg,ap,Vl.nil,Vl.nil⟩ (.tuple #[]) w (oA (rstep E.f E.input m ⟨6,a,b,c,n,args⟩ ⟨rg,ap,Vl.nil,Vl.nil⟩ h))):=by
 obtain ⟨ka,rfl⟩:∃ k:Nat,a=(k:Int):=⟨a.toNat,by omega⟩
 obtain ⟨kb,rfl⟩:∃ k:Nat,b=(k:Int):=⟨b.toNat,by omega⟩
 obtain ⟨kc,rfl⟩:∃ k:Nat,c=(k:Int):=⟨c.toNat,by omega⟩
 obtain ⟨⟨bk,bn⟩,hxb⟩:∃ x,Hid (rg.getD kb Vl.nil=x):=⟨_,Lib.hid rfl⟩
 have hrb:rd ⟨rg,ap,Vl.nil,Vl.nil⟩ (kb:Int)=⟨bk,bn⟩:=by unfold rd;rw [Int.toNat_natCast];exact hxb.out
 obtain ⟨⟨ck,cn⟩,hxc⟩:∃ x,Hid (rg.getD kc Vl.nil=x):=⟨_,Lib.hid rfl⟩
 have hrc:rd ⟨rg,ap,Vl.nil,Vl.nil⟩ (kc:Int)=⟨ck,cn⟩:=by unfold rd;rw [Int.toNat_natCast];exact hxc.out
 rw [rt6]
 rw [hrb] at hok
 rw [hrb,hrc] at hw ⊢
 simp only [Int.toNat_natCast] at hw hb' hc'
 obtain ⟨r,hr⟩:∃ r,Hid (Run.reckon E.f.classes ⟨bk,bn⟩ ⟨ck,cn⟩ 2 n h=r):=⟨_,Lib.hid rfl⟩
 rw [hr.out]
 replace hw:=Lib.hid hw
 have HS:=Lib.hid S
 have hcb:=S.cbw
 have hcb1:P.cb < w.heap.size+1:=by omega
 have nf:=S.fo_new (Nat.le_refl _)
 have c0:w.cell? ⟨P.cb,0,none⟩=some (.pointer (some ⟨E.hb,0,none⟩)):=S.c0
 have c9:w.cell? ⟨P.cb,9,none⟩=some (.slice (some ⟨P.lb,0,none⟩) rg.length rg.length):=S.c9
 have hfl:=fieldN
 clear S
 go_enter Try.func77,Try.ntmps77
 go_wp2_with fail
 refine Drawn.hd (fun w'=>w'.cell? ⟨P.cb,0,none⟩=some (.pointer (some ⟨E.hb,0,none⟩))∧w'.cell? ⟨P.cb,9,none⟩=some (.slice (some ⟨P.lb,0,none⟩) rg.length rg.length)∧w'.cell? ⟨w.heap.size,1,none⟩=some (.int .i64 ka)∧w'.cell? ⟨w.heap.size,2,none⟩=some (.int .i64 kb)∧w'.cell? ⟨w.heap.size,3,none⟩=some (.int .i64 kc)∧w'.cell? ⟨w.heap.size,4,none⟩=some (.int .i64 n)) (h:=fun hHeld=>?_)
 refine Drawn.T 0 (some 70) (h:=?_)
 refine Drawn.T 1 (some 71) (h:=?_)
 refine Drawn.T 2 (some 72) (h:=?_)
 refine Drawn.T 3 (some 73) (h:=?_)
 refine Drawn.T 4 (some 74) (h:=?_)
 refine Drawn.T 5 (some 75) (h:=?_)
 refine Drawn.T 6 (some 76) (h:=?_)
 refine Drawn.T 7 (some 77) (h:=?_)
 refine Drawn.T 8 (some 78) (h:=?_)
 refine Drawn.T 9 (some 79) (h:=?_)
 refine Drawn.T 10 (some 80) (h:=?_)
 refine Drawn.T 11 (some 81) (h:=?_)
 refine Drawn.T 12 (some 82) (h:=?_)
 refine Drawn.T 14 (some 84) (h:=?_)
 refine Drawn.T 15 (some 85) (h:=?_)
 refine Drawn.T 16 (some 86) (h:=?_)
 refine Drawn.T 18 (some 88) (h:=?_)
 refine Drawn.T 19 (some 89) (h:=?_)
 refine Drawn.cl 13 (fun K hK=>?_)
 go_simp
 refine (readR (HS.out.below (by exact Rd.byB)) kb hb' h1000 ⟨bk,bn⟩ hxb.out 2).mono ?_
 rintro e w7 ⟨⟨qb,rfl⟩ | ⟨qb,rfl⟩,hb⟩
 ·simp only at qb
  have rb:=Lib.hid qb
  clear qb
  have kk:∀ (b o:Nat) (u:Value),World.cell? _ ⟨b,o,none⟩=some u→w7.cell? ⟨b,o,none⟩=some u:=fun b o u hc=>kept hb (cell_lt hc) hc
  have yw7_0:=kk (P.cb) (0) (.pointer (some ⟨E.hb,0,none⟩)) (by go_simp)
  have yw7_1:=kk (P.cb) (9) (.slice (some ⟨P.lb,0,none⟩) rg.length rg.length) (by go_simp)
  have yw7_2:=kk (w.heap.size) (1) (.int .i64 ka) (by go_simp)
  have yw7_3:=kk (w.heap.size) (2) (.int .i64 kb) (by go_simp)
  have yw7_4:=kk (w.heap.size) (3) (.int .i64 kc) (by go_simp)
  have yw7_5:=kk (w.heap.size) (4) (.int .i64 n) (by go_simp)
  clear kk
  have Hw7:=Lib.hid (show Below w.heap.size w w7 from Below.trans (by exact Rd.byB) (hb.mono Rd.byL))
  clear hb
  go_wp2_with fail
  refine Drawn.bk hK (hS:=by (try dsimp only);exact ⟨yw7_0,yw7_1,yw7_2,yw7_3,yw7_4,yw7_5⟩) (h:=fun hHeld=>?_)
  clear hK K
  refine Drawn.cl 17 (fun K hK=>?_)
  go_simp
  refine (readR (HS.out.below Hw7.out) kc hc' h1000 ⟨ck,cn⟩ hxc.out 2).mono ?_
  rintro e w8 ⟨⟨qc,rfl⟩ | ⟨qc,rfl⟩,hb⟩
  ·simp only at qc
   have rc:=Lib.hid qc
   clear qc
   have kk:∀ (b o:Nat) (u:Value),World.cell? _ ⟨b,o,none⟩=some u→w8.cell? ⟨b,o,none⟩=some u:=fun b o u hc=>kept hb (cell_lt hc) hc
   have yw8_0:=kk (P.cb) (0) (.pointer (some ⟨E.hb,0,none⟩)) (by go_simp)
   have yw8_1:=kk (P.cb) (9) (.slice (some ⟨P.lb,0,none⟩) rg.length rg.length) (by go_simp)
   have yw8_2:=kk (w.heap.size) (1) (.int .i64 ka) (by go_simp)
   have yw8_3:=kk (w.heap.size) (2) (.int .i64 kb) (by go_simp)
   have yw8_4:=kk (w.heap.size) (3) (.int .i64 kc) (by go_simp)
   have yw8_5:=kk (w.heap.size) (4) (.int .i64 n) (by go_simp)
   clear kk
   have Hw8:=Lib.hid (show Below w.heap.size w w8 from Hw7.out.trans (Below.trans (by exact Rd.byB) (hb.mono (by have:=Hw7.out.size;first | exact this | (simp;omega)))))
   clear hb
   go_wp2_with fail
   refine Drawn.bk hK (hS:=by (try dsimp only);exact ⟨yw8_0,yw8_1,yw8_2,yw8_3,yw8_4,yw8_5⟩) (h:=fun hHeld=>?_)
   clear hK K
   refine Drawn.cl 20 (fun K hK=>?_)
   go_simp
   refine (reckonL (HS.out.below Hw8.out).H hm ⟨bk,bn⟩ ⟨ck,cn⟩ n hok).mono ?_
   rw [hr.out]
   rintro e w9 hR
   cases r with
   | thrown o h2 =>
    obtain ⟨rfl,A⟩:=hR
    obtain ⟨L5,G5,S5⟩:=Gr.of_heap A (HS.out.below Hw8.out)
    unfold pan
    refine And.intro rfl ?_
    exact plr_thrown ((Gr.of_below Hw8.out).trans G5) S5
   | stop c2 h2 =>
    obtain ⟨rfl,A⟩:=hR
    obtain ⟨L5,G5,S5⟩:=Gr.of_heap A (HS.out.below Hw8.out)
    unfold pan
    refine And.intro rfl ?_
    exact plr_stop ((Gr.of_below Hw8.out).trans G5) S5
   | ok x h2 =>
    obtain ⟨xk,xn⟩:=x
    obtain ⟨rfl,A⟩:=hR
    unfold vval
    obtain ⟨L5,G5,S5⟩:=Gr.of_heap A (HS.out.below Hw8.out)
    have z0:w9.cell? ⟨P.cb,0,none⟩=some (.pointer (some ⟨E.hb,0,none⟩)):=S5.c0
    have z1:w9.cell? ⟨P.cb,9,none⟩=some (.slice (some ⟨P.lb,0,none⟩) rg.length rg.length):=S5.c9
    have z2:=G5.cell (b:=w.heap.size) (o:=1) (v:=.int .i64 ka) nf (by go_simp)
    have z3:=G5.cell (b:=w.heap.size) (o:=2) (v:=.int .i64 kb) nf (by go_simp)
    have z4:=G5.cell (b:=w.heap.size) (o:=3) (v:=.int .i64 kc) nf (by go_simp)
    have z5:=G5.cell (b:=w.heap.size) (o:=4) (v:=.int .i64 n) nf (by go_simp)
    have nf5:=G5.nf (by have:=cell_lt yw8_2;first | exact this | (simp;omega)) nf
    have GB:=Lib.hid ((Gr.of_below Hw8.out).trans G5)
    replace S5:=Lib.hid S5
    clear A G5
    go_wp2_with fail
    refine Drawn.bk hK (hS:=by (try dsimp only);exact ⟨z0,z1,z2,z3,z4,z5⟩) (h:=fun hHeld=>?_)
    clear hK K
    refine Drawn.cl 21 (fun K hK=>?_)
    go_simp
    refine (storeR S5.out hP ka ⟨xk,xn⟩ (hw.out _ _ hr.out) h1000).mono ?_
    rintro e w10 ⟨rfl,A⟩
    obtain ⟨L70,v70,G70,S70⟩:=A.opn
    have u0:w10.cell? ⟨P.cb,0,none⟩=some (.pointer (some ⟨E.hb,0,none⟩)):=S70.c0
    obtain ⟨L71,v71,G71,S71⟩:=A.opn
    have u1:w10.cell? ⟨P.cb,9,none⟩=some (.slice (some ⟨P.lb,0,none⟩) rg.length rg.length):=by have:=S71.c9;rw [Run.store_len] at this;exact this
    have u2:=A.box (b:=w.heap.size) (o:=1) (v:=.int .i64 ka) (by go_simp) nf5
    have u3:=A.box (b:=w.heap.size) (o:=2) (v:=.int .i64 kb) (by go_simp) nf5
    have u4:=A.box (b:=w.heap.size) (o:=3) (v:=.int .i64 kc) (by go_simp) nf5
    have u5:=A.box (b:=w.heap.size) (o:=4) (v:=.int .i64 n) (by go_simp) nf5
    go_wp2_with fail
    refine Drawn.bk hK (hS:=by (try dsimp only);exact ⟨u0,u1,u2,u3,u4,u5⟩) (h:=fun hHeld=>?_)
    clear hK K
    refine wpAnyH_done (by kernel_rfl) ?_ _
    go_wp2
    go_end0
    exact plr_goE (by rfl) GB.out A
  ·have Hw8:=Lib.hid (show Below w.heap.size w w8 from Hw7.out.trans (Below.trans (by exact Rd.byB) (hb.mono (by have:=Hw7.out.size;first | exact this | (simp;omega)))))
   unfold pan
   refine And.intro rfl ?_
   exact plr_stuckE (by rw [← hr.out];simp [Run.reckon,qc,oA,Res.act]) (Gr.of_below Hw8.out) (HS.out.below Hw8.out)
 ·have Hw7:=Lib.hid (show Below w.heap.size w w7 from Below.trans (by exact Rd.byB) (hb.mono Rd.byL))
  unfold pan
  refine And.intro rfl ?_
  exact plr_stuckE (by rw [← hr.out];simp [Run.reckon,qb,oA,Res.act]) (Gr.of_below Hw7.out) (HS.out.below Hw7.out)
end
end Hpr
namespace Hpr
open Num Rd D Run Mem HierW Hpw
section
variable {E:Ev}{w w' w1 w2:World}{L L' L1:Lay}{h h' h1 h2:Hp}{d:Nat}{P:PS}{m:Me}{vs vs1:Value}{rg:List Vl}{ap:Nat}
theorem newR (H:PH E w L h d) (hm:Hier.may E.f.classes=true) (cl:Int):Calls Try.prog 112 #[.pointer (some ⟨E.hb,0,none⟩),.int .i64 cl] w (PanR E L d w vval (Run.new E.f.classes cl h)):=by
 unfold Run.new
 by_cases q:100≤h.objs.length
 ·rw [if_pos q]
  exact (newFull H cl q).mono fun e w' ⟨he,hb⟩=>⟨he,Lft.of_below H hb⟩
 ·rw [if_neg q]
  exact (newOk H hm cl (by omega)).mono fun e w' ⟨he,hb⟩=>⟨he,hb⟩
theorem inR (H:PH E w L h d) (hl:E.input.length≤1000):Calls Try.prog 118 #[.pointer (some ⟨E.hb,0,none⟩)] w (PanR E L d w vval (Run.takeIn E.input h)):=by
 unfold Run.takeIn
 by_cases q:E.input.length≤h.used
 ·rw [if_pos q]
  exact (inStop H q).mono fun e w' ⟨he,hb⟩=>⟨he,Lft.of_below H hb⟩
 ·rw [if_neg q]
  exact (inOk H (by omega) hl).mono fun e w' ⟨he,h2,hk⟩=>⟨he,⟨L,hk,same_own,h2⟩⟩
set_option maxRecDepth 100000 in
theorem pl9 (S:ST E w L P m d h ⟨rg,ap,Vl.nil,Vl.nil⟩ vs) (hP:Paired rg) (h1000:rg.length≤1000) (a b c n:Int) (args:List Int) (sa:Option Addr) (sn sc:Nat) (ha0:0≤a) (haw:a.toNat+1≤rg.length) (hb0:0≤b) (hb':b.toNat < rg.length) (hc0:0≤c) (hc':c.toNat < rg.length) :
  Calls Try.prog 77 #[.pointer (some ⟨P.cb,0,none⟩),.agg #[.int .i64 9,.int .i64 a,.int .i64 b,.int .i64 c,.int .i64 n,.slice sa sn sc]] w (PlR E L P m d vs ⟨rg,ap,Vl.nil,Vl.nil⟩ (.tuple #[]) w (oA (rstep E.f E.input m ⟨9,a,b,c,n,args⟩ ⟨rg,ap,Vl.nil,Vl.nil⟩ h))):=by
 obtain ⟨ka,rfl⟩:∃ k:Nat,a=(k:Int):=⟨a.toNat,by omega⟩
 obtain ⟨kb,rfl⟩:∃ k:Nat,b=(k:Int):=⟨b.toNat,by omega⟩
 obtain ⟨kc,rfl⟩:∃ k:Nat,c=(k:Int):=⟨c.toNat,by omega⟩
 obtain ⟨⟨bk,bn⟩,hxb⟩:∃ x,Hid (rg.getD kb Vl.nil=x):=⟨_,Lib.hid rfl⟩
 have hrb:rd ⟨rg,ap,Vl.nil,Vl.nil⟩ (kb:Int)=⟨bk,bn⟩:=by unfold rd;rw [Int.toNat_natCast];exact hxb.out
 obtain ⟨⟨ck,cn⟩,hxc⟩:∃ x,Hid (rg.getD kc Vl.nil=x):=⟨_,Lib.hid rfl⟩
 have hrc:rd ⟨rg,ap,Vl.nil,Vl.nil⟩ (kc:Int)=⟨ck,cn⟩:=by unfold rd;rw [Int.toNat_natCast];exact hxc.out
 rw [rt9]
 rw [hrb,hrc]
 simp only [Int.toNat_natCast] at haw hb' hc'
 have HS:=Lib.hid S
 have hcb:=S.cbw
 have hcb1:P.cb < w.heap.size+1:=by omega
 have nf:=S.fo_new (Nat.le_refl _)
 have c0:w.cell? ⟨P.cb,0,none⟩=some (.pointer (some ⟨E.hb,0,none⟩)):=S.c0
 have c9:w.cell? ⟨P.cb,9,none⟩=some (.slice (some ⟨P.lb,0,none⟩) rg.length rg.length):=S.c9
 have hfl:=fieldN
 clear S
 go_enter Try.func77,Try.ntmps77
 go_wp2_with fail
 refine Drawn.hd (fun w'=>w'.cell? ⟨w.heap.size,1,none⟩=some (.int .i64 ka)∧w'.cell? ⟨w.heap.size,2,none⟩=some (.int .i64 kb)∧w'.cell? ⟨w.heap.size,3,none⟩=some (.int .i64 kc)) (h:=fun hHeld=>?_)
 refine Drawn.T 0 (some 117) (h:=?_)
 refine Drawn.T 1 (some 118) (h:=?_)
 refine Drawn.T 2 (some 119) (h:=?_)
 refine Drawn.T 3 (some 120) (h:=?_)
 refine Drawn.T 4 (some 121) (h:=?_)
 refine Drawn.T 5 (some 122) (h:=?_)
 refine Drawn.T 8 (some 125) (h:=?_)
 refine Drawn.T 9 (some 126) (h:=?_)
 refine Drawn.T 10 (some 127) (h:=?_)
 refine Drawn.cl 6 (fun K hK=>?_)
 go_simp
 refine (readR (HS.out.below (by exact Rd.byB)) kb hb' h1000 ⟨bk,bn⟩ hxb.out 2).mono ?_
 rintro e w11 ⟨⟨qb,rfl⟩ | ⟨qb,rfl⟩,hb⟩
 ·simp only at qb
  have rb:=Lib.hid qb
  clear qb
  have kk:∀ (b o:Nat) (u:Value),World.cell? _ ⟨b,o,none⟩=some u→w11.cell? ⟨b,o,none⟩=some u:=fun b o u hc=>kept hb (cell_lt hc) hc
  have yw11_0:=kk (w.heap.size) (1) (.int .i64 ka) (by go_simp)
  have yw11_1:=kk (w.heap.size) (2) (.int .i64 kb) (by go_simp)
  have yw11_2:=kk (w.heap.size) (3) (.int .i64 kc) (by go_simp)
  clear kk
  have Hw11:=Lib.hid (show Below w.heap.size w w11 from Below.trans (by exact Rd.byB) (hb.mono Rd.byL))
  clear hb
  go_wp2_with fail
  refine Drawn.bk hK (hS:=by (try dsimp only);exact ⟨yw11_0,yw11_1,yw11_2⟩) (h:=fun hHeld=>?_)
  clear hK K
  refine Drawn.T 7 (some 124) (h:=?_)
  refine Drawn.cl 11 (fun K hK=>?_)
  go_simp
  refine (readR (HS.out.below Hw11.out) kc hc' h1000 ⟨ck,cn⟩ hxc.out 2).mono ?_
  rintro e w12 ⟨⟨qc,rfl⟩ | ⟨qc,rfl⟩,hb⟩
  ·simp only at qc
   have rc:=Lib.hid qc
   clear qc
   have kk:∀ (b o:Nat) (u:Value),World.cell? _ ⟨b,o,none⟩=some u→w12.cell? ⟨b,o,none⟩=some u:=fun b o u hc=>kept hb (cell_lt hc) hc
   have yw12_0:=kk (w.heap.size) (1) (.int .i64 ka) (by go_simp)
   have yw12_1:=kk (w.heap.size) (2) (.int .i64 kb) (by go_simp)
   have yw12_2:=kk (w.heap.size) (3) (.int .i64 kc) (by go_simp)
   clear kk
   have Hw12:=Lib.hid (show Below w.heap.size w w12 from Hw11.out.trans (Below.trans (by exact Rd.byB) (hb.mono (by have:=Hw11.out.size;first | exact this | (simp;omega)))))
   clear hb
   go_wp2_with fail
   refine Drawn.bk hK (hS:=by (try dsimp only);exact ⟨yw12_0,yw12_1,yw12_2⟩) (h:=fun hHeld=>?_)
   clear hK K
   refine Drawn.T 12 (some 129) (h:=?_)
   refine Drawn.cl 13 (fun K hK=>?_)
   go_simp
   refine (NumW.cmp bn cn _).mono ?_
   rintro e w9 ⟨rfl,rfl⟩
   go_wp2_with fail
   refine Drawn.bk hK (hS:=by (try dsimp only);exact ⟨yw12_0,yw12_1,yw12_2⟩) (h:=fun hHeld=>?_)
   clear hK K
   refine Drawn.cl 14 (fun K hK=>?_)
   go_simp
   refine (writeR (HS.out.below Hw12.out) hP ka ⟨1,Num.cmp bn cn⟩ (by simp [width];exact haw) h1000).mono ?_
   rintro e w13 ⟨rfl,A⟩
   have u0:=A.box (b:=w.heap.size) (o:=1) (v:=.int .i64 ka) (by go_simp) nf
   have u1:=A.box (b:=w.heap.size) (o:=2) (v:=.int .i64 kb) (by go_simp) nf
   have u2:=A.box (b:=w.heap.size) (o:=3) (v:=.int .i64 kc) (by go_simp) nf
   go_wp2_with fail
   refine Drawn.bk hK (hS:=by (try dsimp only);exact ⟨u0,u1,u2⟩) (h:=fun hHeld=>?_)
   clear hK K
   refine wpAnyH_done (by kernel_rfl) ?_ _
   go_wp2
   go_end0
   exact plr_goE (by unfold rkind;rw [if_pos rb.out,if_pos rc.out];rfl) (Gr.of_below Hw12.out) A
  ·have Hw12:=Lib.hid (show Below w.heap.size w w12 from Hw11.out.trans (Below.trans (by exact Rd.byB) (hb.mono (by have:=Hw11.out.size;first | exact this | (simp;omega)))))
   unfold pan
   refine And.intro rfl ?_
   exact plr_stuckE (by simp [rkind,rb.out,qc,oA]) (Gr.of_below Hw12.out) (HS.out.below Hw12.out)
 ·have Hw11:=Lib.hid (show Below w.heap.size w w11 from Below.trans (by exact Rd.byB) (hb.mono Rd.byL))
  unfold pan
  refine And.intro rfl ?_
  exact plr_stuckE (by simp [rkind,qb,oA]) (Gr.of_below Hw11.out) (HS.out.below Hw11.out)
set_option maxRecDepth 100000 in
theorem pl13 (S:ST E w L P m d h ⟨rg,ap,Vl.nil,Vl.nil⟩ vs) (hP:Paired rg) (h1000:rg.length≤1000) (a b c n:Int) (args:List Int) (sa:Option Addr) (sn sc:Nat) (hm:Hier.may E.f.classes=true) (ha0:0≤a) (hw:∀ v h',Run.new E.f.classes b h=.ok v h'→a.toNat+width v≤rg.length) :
  Calls Try.prog 77 #[.pointer (some ⟨P.cb,0,none⟩),.agg #[.int .i64 13,.int .i64 a,.int .i64 b,.int .i64 c,.int .i64 n,.slice sa sn sc]] w (PlR E L P m d vs ⟨rg,ap,Vl.nil,Vl.nil⟩ (.tuple #[]) w (oA (rstep E.f E.input m ⟨13,a,b,c,n,args⟩ ⟨rg,ap,Vl.nil,Vl.nil⟩ h))):=by
 obtain ⟨ka,rfl⟩:∃ k:Nat,a=(k:Int):=⟨a.toNat,by omega⟩
 rw [rt13]
 simp only [Int.toNat_natCast] at hw
 obtain ⟨r,hr⟩:∃ r,Hid (Run.new E.f.classes b h=r):=⟨_,Lib.hid rfl⟩
 rw [hr.out]
 replace hw:=Lib.hid hw
 have HS:=Lib.hid S
 have hcb:=S.cbw
 have hcb1:P.cb < w.heap.size+1:=by omega
 have nf:=S.fo_new (Nat.le_refl _)
 have c0:w.cell? ⟨P.cb,0,none⟩=some (.pointer (some ⟨E.hb,0,none⟩)):=S.c0
 have c9:w.cell? ⟨P.cb,9,none⟩=some (.slice (some ⟨P.lb,0,none⟩) rg.length rg.length):=S.c9
 have hfl:=fieldN
 clear S
 go_enter Try.func77,Try.ntmps77
 go_wp2_with fail
 refine Drawn.hd (fun w'=>w'.cell? ⟨P.cb,0,none⟩=some (.pointer (some ⟨E.hb,0,none⟩))∧w'.cell? ⟨P.cb,9,none⟩=some (.slice (some ⟨P.lb,0,none⟩) rg.length rg.length)∧w'.cell? ⟨w.heap.size,1,none⟩=some (.int .i64 ka)∧w'.cell? ⟨w.heap.size,2,none⟩=some (.int .i64 b)) (h:=fun hHeld=>?_)
 refine Drawn.T 0 (some 134) (h:=?_)
 refine Drawn.T 1 (some 135) (h:=?_)
 refine Drawn.T 2 (some 136) (h:=?_)
 refine Drawn.T 3 (some 137) (h:=?_)
 refine Drawn.T 4 (some 138) (h:=?_)
 refine Drawn.T 5 (some 139) (h:=?_)
 refine Drawn.T 6 (some 140) (h:=?_)
 refine Drawn.T 7 (some 141) (h:=?_)
 refine Drawn.T 8 (some 142) (h:=?_)
 refine Drawn.T 9 (some 143) (h:=?_)
 refine Drawn.T 10 (some 144) (h:=?_)
 refine Drawn.T 11 (some 145) (h:=?_)
 refine Drawn.cl 12 (fun K hK=>?_)
 go_simp
 refine (newR (HS.out.below (by exact Rd.byB)).H hm b).mono ?_
 rw [hr.out]
 rintro e w14 hR
 cases r with
 | thrown o h2 =>
  obtain ⟨rfl,A⟩:=hR
  obtain ⟨L5,G5,S5⟩:=Gr.of_heap A (HS.out.below (by exact Rd.byB))
  unfold pan
  refine And.intro rfl ?_
  exact plr_thrown ((Gr.of_below (w:=w) (by exact Rd.byB)).trans G5) S5
 | stop c2 h2 =>
  obtain ⟨rfl,A⟩:=hR
  obtain ⟨L5,G5,S5⟩:=Gr.of_heap A (HS.out.below (by exact Rd.byB))
  unfold pan
  refine And.intro rfl ?_
  exact plr_stop ((Gr.of_below (w:=w) (by exact Rd.byB)).trans G5) S5
 | ok x h2 =>
  obtain ⟨xk,xn⟩:=x
  obtain ⟨rfl,A⟩:=hR
  unfold vval
  obtain ⟨L5,G5,S5⟩:=Gr.of_heap A (HS.out.below (by exact Rd.byB))
  have z0:w14.cell? ⟨P.cb,0,none⟩=some (.pointer (some ⟨E.hb,0,none⟩)):=S5.c0
  have z1:w14.cell? ⟨P.cb,9,none⟩=some (.slice (some ⟨P.lb,0,none⟩) rg.length rg.length):=S5.c9
  have z2:=G5.cell (b:=w.heap.size) (o:=1) (v:=.int .i64 ka) nf (by go_simp)
  have z3:=G5.cell (b:=w.heap.size) (o:=2) (v:=.int .i64 b) nf (by go_simp)
  have nf5:=G5.nf (by simp) nf
  have GB:=Lib.hid ((Gr.of_below (w:=w) (by exact Rd.byB)).trans G5)
  replace S5:=Lib.hid S5
  clear A G5
  go_wp2_with fail
  refine Drawn.bk hK (hS:=by (try dsimp only);exact ⟨z0,z1,z2,z3⟩) (h:=fun hHeld=>?_)
  clear hK K
  refine Drawn.cl 13 (fun K hK=>?_)
  go_simp
  refine (storeR S5.out hP ka ⟨xk,xn⟩ (hw.out _ _ hr.out) h1000).mono ?_
  rintro e w15 ⟨rfl,A⟩
  obtain ⟨L70,v70,G70,S70⟩:=A.opn
  have u0:w15.cell? ⟨P.cb,0,none⟩=some (.pointer (some ⟨E.hb,0,none⟩)):=S70.c0
  obtain ⟨L71,v71,G71,S71⟩:=A.opn
  have u1:w15.cell? ⟨P.cb,9,none⟩=some (.slice (some ⟨P.lb,0,none⟩) rg.length rg.length):=by have:=S71.c9;rw [Run.store_len] at this;exact this
  have u2:=A.box (b:=w.heap.size) (o:=1) (v:=.int .i64 ka) (by go_simp) nf5
  have u3:=A.box (b:=w.heap.size) (o:=2) (v:=.int .i64 b) (by go_simp) nf5
  go_wp2_with fail
  refine Drawn.bk hK (hS:=by (try dsimp only);exact ⟨u0,u1,u2,u3⟩) (h:=fun hHeld=>?_)
  clear hK K
  refine wpAnyH_done (by kernel_rfl) ?_ _
  go_wp2
  go_end0
  exact plr_goE (by rfl) GB.out A
set_option maxRecDepth 100000 in
theorem pl24 (S:ST E w L P m d h ⟨rg,ap,Vl.nil,Vl.nil⟩ vs) (hP:Paired rg) (h1000:rg.length≤1000) (a b c n:Int) (args:List Int) (sa:Option Addr) (sn sc:Nat) (hin:E.input.length≤1000) (ha0:0≤a) (hw:∀ v h',Run.takeIn E.input h=.ok v h'→a.toNat+width v≤rg.length) :
  Calls Try.prog 77 #[.pointer (some ⟨P.cb,0,none⟩),.agg #[.int .i64 24,.int .i64 a,.int .i64 b,.int .i64 c,.int .i64 n,.slice sa sn sc]] w (PlR E L P m d vs ⟨rg,ap,Vl.nil,Vl.nil⟩ (.tuple #[]) w (oA (rstep E.f E.input m ⟨24,a,b,c,n,args⟩ ⟨rg,ap,Vl.nil,Vl.nil⟩ h))):=by
 obtain ⟨ka,rfl⟩:∃ k:Nat,a=(k:Int):=⟨a.toNat,by omega⟩
 rw [rt24]
 simp only [Int.toNat_natCast] at hw
 obtain ⟨r,hr⟩:∃ r,Hid (Run.takeIn E.input h=r):=⟨_,Lib.hid rfl⟩
 rw [hr.out]
 replace hw:=Lib.hid hw
 have HS:=Lib.hid S
 have hcb:=S.cbw
 have hcb1:P.cb < w.heap.size+1:=by omega
 have nf:=S.fo_new (Nat.le_refl _)
 have c0:w.cell? ⟨P.cb,0,none⟩=some (.pointer (some ⟨E.hb,0,none⟩)):=S.c0
 have c9:w.cell? ⟨P.cb,9,none⟩=some (.slice (some ⟨P.lb,0,none⟩) rg.length rg.length):=S.c9
 have hfl:=fieldN
 clear S
 go_enter Try.func77,Try.ntmps77
 go_wp2_with fail
 refine Drawn.hd (fun w'=>w'.cell? ⟨P.cb,0,none⟩=some (.pointer (some ⟨E.hb,0,none⟩))∧w'.cell? ⟨P.cb,9,none⟩=some (.slice (some ⟨P.lb,0,none⟩) rg.length rg.length)∧w'.cell? ⟨w.heap.size,1,none⟩=some (.int .i64 ka)) (h:=fun hHeld=>?_)
 refine Drawn.T 0 (some 258) (h:=?_)
 refine Drawn.T 1 (some 259) (h:=?_)
 refine Drawn.T 2 (some 260) (h:=?_)
 refine Drawn.T 3 (some 261) (h:=?_)
 refine Drawn.T 4 (some 262) (h:=?_)
 refine Drawn.T 5 (some 263) (h:=?_)
 refine Drawn.T 6 (some 264) (h:=?_)
 refine Drawn.T 7 (some 265) (h:=?_)
 refine Drawn.T 8 (some 266) (h:=?_)
 refine Drawn.T 9 (some 267) (h:=?_)
 refine Drawn.cl 10 (fun K hK=>?_)
 go_simp
 refine (inR (HS.out.below (by exact Rd.byB)).H hin).mono ?_
 rw [hr.out]
 rintro e w16 hR
 cases r with
 | thrown o h2 =>
  obtain ⟨rfl,A⟩:=hR
  obtain ⟨L5,G5,S5⟩:=Gr.of_heap A (HS.out.below (by exact Rd.byB))
  unfold pan
  refine And.intro rfl ?_
  exact plr_thrown ((Gr.of_below (w:=w) (by exact Rd.byB)).trans G5) S5
 | stop c2 h2 =>
  obtain ⟨rfl,A⟩:=hR
  obtain ⟨L5,G5,S5⟩:=Gr.of_heap A (HS.out.below (by exact Rd.byB))
  unfold pan
  refine And.intro rfl ?_
  exact plr_stop ((Gr.of_below (w:=w) (by exact Rd.byB)).trans G5) S5
 | ok x h2 =>
  obtain ⟨xk,xn⟩:=x
  obtain ⟨rfl,A⟩:=hR
  unfold vval
  obtain ⟨L5,G5,S5⟩:=Gr.of_heap A (HS.out.below (by exact Rd.byB))
  have z0:w16.cell? ⟨P.cb,0,none⟩=some (.pointer (some ⟨E.hb,0,none⟩)):=S5.c0
  have z1:w16.cell? ⟨P.cb,9,none⟩=some (.slice (some ⟨P.lb,0,none⟩) rg.length rg.length):=S5.c9
  have z2:=G5.cell (b:=w.heap.size) (o:=1) (v:=.int .i64 ka) nf (by go_simp)
  have nf5:=G5.nf (by simp) nf
  have GB:=Lib.hid ((Gr.of_below (w:=w) (by exact Rd.byB)).trans G5)
  replace S5:=Lib.hid S5
  clear A G5
  go_wp2_with fail
  refine Drawn.bk hK (hS:=by (try dsimp only);exact ⟨z0,z1,z2⟩) (h:=fun hHeld=>?_)
  clear hK K
  refine Drawn.cl 11 (fun K hK=>?_)
  go_simp
  refine (storeR S5.out hP ka ⟨xk,xn⟩ (hw.out _ _ hr.out) h1000).mono ?_
  rintro e w17 ⟨rfl,A⟩
  obtain ⟨L70,v70,G70,S70⟩:=A.opn
  have u0:w17.cell? ⟨P.cb,0,none⟩=some (.pointer (some ⟨E.hb,0,none⟩)):=S70.c0
  obtain ⟨L71,v71,G71,S71⟩:=A.opn
  have u1:w17.cell? ⟨P.cb,9,none⟩=some (.slice (some ⟨P.lb,0,none⟩) rg.length rg.length):=by have:=S71.c9;rw [Run.store_len] at this;exact this
  have u2:=A.box (b:=w.heap.size) (o:=1) (v:=.int .i64 ka) (by go_simp) nf5
  go_wp2_with fail
  refine Drawn.bk hK (hS:=by (try dsimp only);exact ⟨u0,u1,u2⟩) (h:=fun hHeld=>?_)
  clear hK K
  refine wpAnyH_done (by kernel_rfl) ?_ _
  go_wp2
  go_end0
  exact plr_goE (by rfl) GB.out A
set_option maxRecDepth 100000 in
theorem pl14 (S:ST E w L P m d h ⟨rg,ap,Vl.nil,Vl.nil⟩ vs) (hP:Paired rg) (h1000:rg.length≤1000) (a b c n:Int) (args:List Int) (sa:Option Addr) (sn sc:Nat) (hm:Hier.may E.f.classes=true) (ha0:0≤a) (hb0:0≤b) (hb':b.toNat < rg.length) (hv:(rd ⟨rg,ap,Vl.nil,Vl.nil⟩ b).kind=3→(rd ⟨rg,ap,Vl.nil,Vl.nil⟩ b).n < h.objs.length) (hw:∀ v h',Run.get E.f.classes (rd ⟨rg,ap,Vl.nil,Vl.nil⟩ b) c n h=.ok v h'→a.toNat+width v≤rg.length) :
  Calls Try.prog 77 #[.pointer (some ⟨P.cb,0,none⟩),.agg #[.int .i64 14,.int .i64 a,.int .i64 b,.int .i64 c,.int .i64 n,.slice sa sn sc]] w (PlR E L P m d vs ⟨rg,ap,Vl.nil,Vl.nil⟩ (.tuple #[]) w (oA (rstep E.f E.input m ⟨14,a,b,c,n,args⟩ ⟨rg,ap,Vl.nil,Vl.nil⟩ h))):=by
 obtain ⟨ka,rfl⟩:∃ k:Nat,a=(k:Int):=⟨a.toNat,by omega⟩
 obtain ⟨kb,rfl⟩:∃ k:Nat,b=(k:Int):=⟨b.toNat,by omega⟩
 obtain ⟨⟨bk,bn⟩,hxb⟩:∃ x,Hid (rg.getD kb Vl.nil=x):=⟨_,Lib.hid rfl⟩
 have hrb:rd ⟨rg,ap,Vl.nil,Vl.nil⟩ (kb:Int)=⟨bk,bn⟩:=by unfold rd;rw [Int.toNat_natCast];exact hxb.out
 rw [rt14]
 rw [hrb] at hv hw ⊢
 simp only [Int.toNat_natCast] at hw hb'
 obtain ⟨r,hr⟩:∃ r,Hid (Run.get E.f.classes ⟨bk,bn⟩ c n h=r):=⟨_,Lib.hid rfl⟩
 rw [hr.out]
 replace hw:=Lib.hid hw
 have HV:=Lib.hid hv
 clear hv
 have HS:=Lib.hid S
 have hcb:=S.cbw
 have hcb1:P.cb < w.heap.size+1:=by omega
 have nf:=S.fo_new (Nat.le_refl _)
 have c0:w.cell? ⟨P.cb,0,none⟩=some (.pointer (some ⟨E.hb,0,none⟩)):=S.c0
 have c9:w.cell? ⟨P.cb,9,none⟩=some (.slice (some ⟨P.lb,0,none⟩) rg.length rg.length):=S.c9
 have hfl:=fieldN
 clear S
 go_enter Try.func77,Try.ntmps77
 go_wp2_with fail
 refine Drawn.hd (fun w'=>w'.cell? ⟨P.cb,0,none⟩=some (.pointer (some ⟨E.hb,0,none⟩))∧w'.cell? ⟨P.cb,9,none⟩=some (.slice (some ⟨P.lb,0,none⟩) rg.length rg.length)∧w'.cell? ⟨w.heap.size,1,none⟩=some (.int .i64 ka)∧w'.cell? ⟨w.heap.size,2,none⟩=some (.int .i64 kb)∧w'.cell? ⟨w.heap.size,3,none⟩=some (.int .i64 c)∧w'.cell? ⟨w.heap.size,4,none⟩=some (.int .i64 n)) (h:=fun hHeld=>?_)
 refine Drawn.T 0 (some 150) (h:=?_)
 refine Drawn.T 1 (some 151) (h:=?_)
 refine Drawn.T 2 (some 152) (h:=?_)
 refine Drawn.T 3 (some 153) (h:=?_)
 refine Drawn.T 4 (some 154) (h:=?_)
 refine Drawn.T 5 (some 155) (h:=?_)
 refine Drawn.T 6 (some 156) (h:=?_)
 refine Drawn.T 7 (some 157) (h:=?_)
 refine Drawn.T 8 (some 158) (h:=?_)
 refine Drawn.T 9 (some 159) (h:=?_)
 refine Drawn.T 10 (some 160) (h:=?_)
 refine Drawn.T 11 (some 161) (h:=?_)
 refine Drawn.T 12 (some 162) (h:=?_)
 refine Drawn.T 14 (some 164) (h:=?_)
 refine Drawn.T 15 (some 165) (h:=?_)
 refine Drawn.T 16 (some 166) (h:=?_)
 refine Drawn.T 17 (some 167) (h:=?_)
 refine Drawn.cl 13 (fun K hK=>?_)
 go_simp
 refine (readR (HS.out.below (by exact Rd.byB)) kb hb' h1000 ⟨bk,bn⟩ hxb.out 3).mono ?_
 rintro e w18 ⟨⟨qb,rfl⟩ | ⟨qb,rfl⟩,hb⟩
 ·simp only at qb
  have rb:=Lib.hid qb
  clear qb
  have kk:∀ (b o:Nat) (u:Value),World.cell? _ ⟨b,o,none⟩=some u→w18.cell? ⟨b,o,none⟩=some u:=fun b o u hc=>kept hb (cell_lt hc) hc
  have yw18_0:=kk (P.cb) (0) (.pointer (some ⟨E.hb,0,none⟩)) (by go_simp)
  have yw18_1:=kk (P.cb) (9) (.slice (some ⟨P.lb,0,none⟩) rg.length rg.length) (by go_simp)
  have yw18_2:=kk (w.heap.size) (1) (.int .i64 ka) (by go_simp)
  have yw18_3:=kk (w.heap.size) (2) (.int .i64 kb) (by go_simp)
  have yw18_4:=kk (w.heap.size) (3) (.int .i64 c) (by go_simp)
  have yw18_5:=kk (w.heap.size) (4) (.int .i64 n) (by go_simp)
  clear kk
  have Hw18:=Lib.hid (show Below w.heap.size w w18 from Below.trans (by exact Rd.byB) (hb.mono Rd.byL))
  clear hb
  go_wp2_with fail
  refine Drawn.bk hK (hS:=by (try dsimp only);exact ⟨yw18_0,yw18_1,yw18_2,yw18_3,yw18_4,yw18_5⟩) (h:=fun hHeld=>?_)
  clear hK K
  refine Drawn.cl 18 (fun K hK=>?_)
  go_simp
  refine (getP (HS.out.below Hw18.out).H hm ⟨bk,bn⟩ c n HV.out).mono ?_
  rw [hr.out]
  rintro e w19 hR
  cases r with
  | thrown o h2 =>
   obtain ⟨rfl,A⟩:=hR
   obtain ⟨L5,G5,S5⟩:=Gr.of_heap A (HS.out.below Hw18.out)
   unfold pan
   refine And.intro rfl ?_
   unfold rkind
   rw [if_pos rb.out]
   exact plr_thrown ((Gr.of_below Hw18.out).trans G5) S5
  | stop c2 h2 =>
   obtain ⟨rfl,A⟩:=hR
   obtain ⟨L5,G5,S5⟩:=Gr.of_heap A (HS.out.below Hw18.out)
   unfold pan
   refine And.intro rfl ?_
   unfold rkind
   rw [if_pos rb.out]
   exact plr_stop ((Gr.of_below Hw18.out).trans G5) S5
  | ok x h2 =>
   obtain ⟨xk,xn⟩:=x
   obtain ⟨rfl,A⟩:=hR
   unfold vval
   obtain ⟨L5,G5,S5⟩:=Gr.of_heap A (HS.out.below Hw18.out)
   have z0:w19.cell? ⟨P.cb,0,none⟩=some (.pointer (some ⟨E.hb,0,none⟩)):=S5.c0
   have z1:w19.cell? ⟨P.cb,9,none⟩=some (.slice (some ⟨P.lb,0,none⟩) rg.length rg.length):=S5.c9
   have z2:=G5.cell (b:=w.heap.size) (o:=1) (v:=.int .i64 ka) nf (by go_simp)
   have z3:=G5.cell (b:=w.heap.size) (o:=2) (v:=.int .i64 kb) nf (by go_simp)
   have z4:=G5.cell (b:=w.heap.size) (o:=3) (v:=.int .i64 c) nf (by go_simp)
   have z5:=G5.cell (b:=w.heap.size) (o:=4) (v:=.int .i64 n) nf (by go_simp)
   have nf5:=G5.nf (by have:=cell_lt yw18_2;first | exact this | (simp;omega)) nf
   have GB:=Lib.hid ((Gr.of_below Hw18.out).trans G5)
   replace S5:=Lib.hid S5
   clear A G5
   go_wp2_with fail
   refine Drawn.bk hK (hS:=by (try dsimp only);exact ⟨z0,z1,z2,z3,z4,z5⟩) (h:=fun hHeld=>?_)
   clear hK K
   refine Drawn.cl 19 (fun K hK=>?_)
   go_simp
   refine (storeR S5.out hP ka ⟨xk,xn⟩ (hw.out _ _ hr.out) h1000).mono ?_
   rintro e w20 ⟨rfl,A⟩
   obtain ⟨L70,v70,G70,S70⟩:=A.opn
   have u0:w20.cell? ⟨P.cb,0,none⟩=some (.pointer (some ⟨E.hb,0,none⟩)):=S70.c0
   obtain ⟨L71,v71,G71,S71⟩:=A.opn
   have u1:w20.cell? ⟨P.cb,9,none⟩=some (.slice (some ⟨P.lb,0,none⟩) rg.length rg.length):=by have:=S71.c9;rw [Run.store_len] at this;exact this
   have u2:=A.box (b:=w.heap.size) (o:=1) (v:=.int .i64 ka) (by go_simp) nf5
   have u3:=A.box (b:=w.heap.size) (o:=2) (v:=.int .i64 kb) (by go_simp) nf5
   have u4:=A.box (b:=w.heap.size) (o:=3) (v:=.int .i64 c) (by go_simp) nf5
   have u5:=A.box (b:=w.heap.size) (o:=4) (v:=.int .i64 n) (by go_simp) nf5
   go_wp2_with fail
   refine Drawn.bk hK (hS:=by (try dsimp only);exact ⟨u0,u1,u2,u3,u4,u5⟩) (h:=fun hHeld=>?_)
   clear hK K
   refine wpAnyH_done (by kernel_rfl) ?_ _
   go_wp2
   go_end0
   exact plr_goE (by unfold rkind;rw [if_pos rb.out];rfl) GB.out A
 ·have Hw18:=Lib.hid (show Below w.heap.size w w18 from Below.trans (by exact Rd.byB) (hb.mono Rd.byL))
  unfold pan
  refine And.intro rfl ?_
  exact plr_stuckE (by simp [rkind,qb,oA]) (Gr.of_below Hw18.out) (HS.out.below Hw18.out)
set_option maxRecDepth 100000 in
theorem pl17 (S:ST E w L P m d h ⟨rg,ap,Vl.nil,Vl.nil⟩ vs) (hP:Paired rg) (h1000:rg.length≤1000) (a b c n:Int) (args:List Int) (sa:Option Addr) (sn sc:Nat) (hm:Hier.may E.f.classes=true) (ha0:0≤a) (hb0:0≤b) (hb':b.toNat < rg.length) (hv:(rd ⟨rg,ap,Vl.nil,Vl.nil⟩ b).kind=3→(rd ⟨rg,ap,Vl.nil,Vl.nil⟩ b).n < h.objs.length) (hw:∀ v h',Run.isV E.f.classes (rd ⟨rg,ap,Vl.nil,Vl.nil⟩ b) c h=.ok v h'→a.toNat+width v≤rg.length) :
  Calls Try.prog 77 #[.pointer (some ⟨P.cb,0,none⟩),.agg #[.int .i64 17,.int .i64 a,.int .i64 b,.int .i64 c,.int .i64 n,.slice sa sn sc]] w (PlR E L P m d vs ⟨rg,ap,Vl.nil,Vl.nil⟩ (.tuple #[]) w (oA (rstep E.f E.input m ⟨17,a,b,c,n,args⟩ ⟨rg,ap,Vl.nil,Vl.nil⟩ h))):=by
 obtain ⟨ka,rfl⟩:∃ k:Nat,a=(k:Int):=⟨a.toNat,by omega⟩
 obtain ⟨kb,rfl⟩:∃ k:Nat,b=(k:Int):=⟨b.toNat,by omega⟩
 obtain ⟨⟨bk,bn⟩,hxb⟩:∃ x,Hid (rg.getD kb Vl.nil=x):=⟨_,Lib.hid rfl⟩
 have hrb:rd ⟨rg,ap,Vl.nil,Vl.nil⟩ (kb:Int)=⟨bk,bn⟩:=by unfold rd;rw [Int.toNat_natCast];exact hxb.out
 rw [rt17]
 rw [hrb] at hv hw ⊢
 simp only [Int.toNat_natCast] at hw hb'
 obtain ⟨r,hr⟩:∃ r,Hid (Run.isV E.f.classes ⟨bk,bn⟩ c h=r):=⟨_,Lib.hid rfl⟩
 rw [hr.out]
 replace hw:=Lib.hid hw
 have HV:=Lib.hid hv
 clear hv
 have HS:=Lib.hid S
 have hcb:=S.cbw
 have hcb1:P.cb < w.heap.size+1:=by omega
 have nf:=S.fo_new (Nat.le_refl _)
 have c0:w.cell? ⟨P.cb,0,none⟩=some (.pointer (some ⟨E.hb,0,none⟩)):=S.c0
 have c9:w.cell? ⟨P.cb,9,none⟩=some (.slice (some ⟨P.lb,0,none⟩) rg.length rg.length):=S.c9
 have hfl:=fieldN
 clear S
 go_enter Try.func77,Try.ntmps77
 go_wp2_with fail
 refine Drawn.hd (fun w'=>w'.cell? ⟨P.cb,0,none⟩=some (.pointer (some ⟨E.hb,0,none⟩))∧w'.cell? ⟨P.cb,9,none⟩=some (.slice (some ⟨P.lb,0,none⟩) rg.length rg.length)∧w'.cell? ⟨w.heap.size,1,none⟩=some (.int .i64 ka)∧w'.cell? ⟨w.heap.size,2,none⟩=some (.int .i64 kb)∧w'.cell? ⟨w.heap.size,3,none⟩=some (.int .i64 c)) (h:=fun hHeld=>?_)
 refine Drawn.T 0 (some 223) (h:=?_)
 refine Drawn.T 1 (some 224) (h:=?_)
 refine Drawn.T 2 (some 225) (h:=?_)
 refine Drawn.T 3 (some 226) (h:=?_)
 refine Drawn.T 4 (some 227) (h:=?_)
 refine Drawn.T 5 (some 228) (h:=?_)
 refine Drawn.T 6 (some 229) (h:=?_)
 refine Drawn.T 7 (some 230) (h:=?_)
 refine Drawn.T 8 (some 231) (h:=?_)
 refine Drawn.T 9 (some 232) (h:=?_)
 refine Drawn.T 10 (some 233) (h:=?_)
 refine Drawn.T 11 (some 234) (h:=?_)
 refine Drawn.T 12 (some 235) (h:=?_)
 refine Drawn.T 14 (some 237) (h:=?_)
 refine Drawn.T 15 (some 238) (h:=?_)
 refine Drawn.cl 13 (fun K hK=>?_)
 go_simp
 refine (readR (HS.out.below (by exact Rd.byB)) kb hb' h1000 ⟨bk,bn⟩ hxb.out 3).mono ?_
 rintro e w21 ⟨⟨qb,rfl⟩ | ⟨qb,rfl⟩,hb⟩
 ·simp only at qb
  have rb:=Lib.hid qb
  clear qb
  have kk:∀ (b o:Nat) (u:Value),World.cell? _ ⟨b,o,none⟩=some u→w21.cell? ⟨b,o,none⟩=some u:=fun b o u hc=>kept hb (cell_lt hc) hc
  have yw21_0:=kk (P.cb) (0) (.pointer (some ⟨E.hb,0,none⟩)) (by go_simp)
  have yw21_1:=kk (P.cb) (9) (.slice (some ⟨P.lb,0,none⟩) rg.length rg.length) (by go_simp)
  have yw21_2:=kk (w.heap.size) (1) (.int .i64 ka) (by go_simp)
  have yw21_3:=kk (w.heap.size) (2) (.int .i64 kb) (by go_simp)
  have yw21_4:=kk (w.heap.size) (3) (.int .i64 c) (by go_simp)
  clear kk
  have Hw21:=Lib.hid (show Below w.heap.size w w21 from Below.trans (by exact Rd.byB) (hb.mono Rd.byL))
  clear hb
  go_wp2_with fail
  refine Drawn.bk hK (hS:=by (try dsimp only);exact ⟨yw21_0,yw21_1,yw21_2,yw21_3,yw21_4⟩) (h:=fun hHeld=>?_)
  clear hK K
  refine Drawn.cl 16 (fun K hK=>?_)
  go_simp
  refine (isP (HS.out.below Hw21.out).H hm ⟨bk,bn⟩ c HV.out).mono ?_
  rw [hr.out]
  rintro e w22 hR
  cases r with
  | thrown o h2 =>
   obtain ⟨rfl,A⟩:=hR
   obtain ⟨L5,G5,S5⟩:=Gr.of_heap A (HS.out.below Hw21.out)
   unfold pan
   refine And.intro rfl ?_
   unfold rkind
   rw [if_pos rb.out]
   exact plr_thrown ((Gr.of_below Hw21.out).trans G5) S5
  | stop c2 h2 =>
   obtain ⟨rfl,A⟩:=hR
   obtain ⟨L5,G5,S5⟩:=Gr.of_heap A (HS.out.below Hw21.out)
   unfold pan
   refine And.intro rfl ?_
   unfold rkind
   rw [if_pos rb.out]
   exact plr_stop ((Gr.of_below Hw21.out).trans G5) S5
  | ok x h2 =>
   obtain ⟨xk,xn⟩:=x
   obtain ⟨rfl,A⟩:=hR
   unfold vval
   obtain ⟨L5,G5,S5⟩:=Gr.of_heap A (HS.out.below Hw21.out)
   have z0:w22.cell? ⟨P.cb,0,none⟩=some (.pointer (some ⟨E.hb,0,none⟩)):=S5.c0
   have z1:w22.cell? ⟨P.cb,9,none⟩=some (.slice (some ⟨P.lb,0,none⟩) rg.length rg.length):=S5.c9
   have z2:=G5.cell (b:=w.heap.size) (o:=1) (v:=.int .i64 ka) nf (by go_simp)
   have z3:=G5.cell (b:=w.heap.size) (o:=2) (v:=.int .i64 kb) nf (by go_simp)
   have z4:=G5.cell (b:=w.heap.size) (o:=3) (v:=.int .i64 c) nf (by go_simp)
   have nf5:=G5.nf (by have:=cell_lt yw21_2;first | exact this | (simp;omega)) nf
   have GB:=Lib.hid ((Gr.of_below Hw21.out).trans G5)
   replace S5:=Lib.hid S5
   clear A G5
   go_wp2_with fail
   refine Drawn.bk hK (hS:=by (try dsimp only);exact ⟨z0,z1,z2,z3,z4⟩) (h:=fun hHeld=>?_)
   clear hK K
   refine Drawn.cl 17 (fun K hK=>?_)
   go_simp
   refine (storeR S5.out hP ka ⟨xk,xn⟩ (hw.out _ _ hr.out) h1000).mono ?_
   rintro e w23 ⟨rfl,A⟩
   obtain ⟨L70,v70,G70,S70⟩:=A.opn
   have u0:w23.cell? ⟨P.cb,0,none⟩=some (.pointer (some ⟨E.hb,0,none⟩)):=S70.c0
   obtain ⟨L71,v71,G71,S71⟩:=A.opn
   have u1:w23.cell? ⟨P.cb,9,none⟩=some (.slice (some ⟨P.lb,0,none⟩) rg.length rg.length):=by have:=S71.c9;rw [Run.store_len] at this;exact this
   have u2:=A.box (b:=w.heap.size) (o:=1) (v:=.int .i64 ka) (by go_simp) nf5
   have u3:=A.box (b:=w.heap.size) (o:=2) (v:=.int .i64 kb) (by go_simp) nf5
   have u4:=A.box (b:=w.heap.size) (o:=3) (v:=.int .i64 c) (by go_simp) nf5
   go_wp2_with fail
   refine Drawn.bk hK (hS:=by (try dsimp only);exact ⟨u0,u1,u2,u3,u4⟩) (h:=fun hHeld=>?_)
   clear hK K
   refine wpAnyH_done (by kernel_rfl) ?_ _
   go_wp2
   go_end0
   exact plr_goE (by unfold rkind;rw [if_pos rb.out];rfl) GB.out A
 ·have Hw21:=Lib.hid (show Below w.heap.size w w21 from Below.trans (by exact Rd.byB) (hb.mono Rd.byL))
  unfold pan
  refine And.intro rfl ?_
  exact plr_stuckE (by simp [rkind,qb,oA]) (Gr.of_below Hw21.out) (HS.out.below Hw21.out)
end
end Hpr
namespace Hpr
open Num Rd D Run Mem HierW Hpw
section
variable {E:Ev}{w w' w1 w2:World}{L L' L1:Lay}{h h' h1 h2:Hp}{d:Nat}{P:PS}{m:Me}{vs vs1:Value}{rg:List Vl}{ap:Nat}
set_option maxRecDepth 100000 in
theorem pl16 (S:ST E w L P m d h ⟨rg,ap,Vl.nil,Vl.nil⟩ vs) (hP:Paired rg) (h1000:rg.length≤1000) (a b c n:Int) (args:List Int) (sa:Option Addr) (sn sc:Nat) (hm:Hier.may E.f.classes=true) (ha0:0≤a) (ha':a.toNat < rg.length) (hv:(rd ⟨rg,ap,Vl.nil,Vl.nil⟩ a).kind=3→(rd ⟨rg,ap,Vl.nil,Vl.nil⟩ a).n < h.objs.length)  :
  Calls Try.prog 77 #[.pointer (some ⟨P.cb,0,none⟩),.agg #[.int .i64 16,.int .i64 a,.int .i64 b,.int .i64 c,.int .i64 n,.slice sa sn sc]] w (PlR E L P m d vs ⟨rg,ap,Vl.nil,Vl.nil⟩ (.tuple #[]) w (oA (rstep E.f E.input m ⟨16,a,b,c,n,args⟩ ⟨rg,ap,Vl.nil,Vl.nil⟩ h))):=by
 obtain ⟨ka,rfl⟩:∃ k:Nat,a=(k:Int):=⟨a.toNat,by omega⟩
 obtain ⟨⟨ak,an⟩,hxa⟩:∃ x,Hid (rg.getD ka Vl.nil=x):=⟨_,Lib.hid rfl⟩
 have hra:rd ⟨rg,ap,Vl.nil,Vl.nil⟩ (ka:Int)=⟨ak,an⟩:=by unfold rd;rw [Int.toNat_natCast];exact hxa.out
 rw [rt16]
 rw [hra] at hv ⊢
 simp only [Int.toNat_natCast] at ha'
 obtain ⟨r,hr⟩:∃ r,Hid (Run.cast E.f.classes ⟨ak,an⟩ b h=r):=⟨_,Lib.hid rfl⟩
 rw [hr.out]
 have HV:=Lib.hid hv
 clear hv
 have HS:=Lib.hid S
 have hcb:=S.cbw
 have hcb1:P.cb < w.heap.size+1:=by omega
 have nf:=S.fo_new (Nat.le_refl _)
 have c0:w.cell? ⟨P.cb,0,none⟩=some (.pointer (some ⟨E.hb,0,none⟩)):=S.c0
 have c9:w.cell? ⟨P.cb,9,none⟩=some (.slice (some ⟨P.lb,0,none⟩) rg.length rg.length):=S.c9
 have hfl:=fieldN
 clear S
 go_enter Try.func77,Try.ntmps77
 go_wp2_with fail
 refine Drawn.hd (fun w'=>w'.cell? ⟨P.cb,0,none⟩=some (.pointer (some ⟨E.hb,0,none⟩))∧w'.cell? ⟨w.heap.size,1,none⟩=some (.int .i64 ka)∧w'.cell? ⟨w.heap.size,2,none⟩=some (.int .i64 b)) (h:=fun hHeld=>?_)
 refine Drawn.T 0 (some 210) (h:=?_)
 refine Drawn.T 1 (some 211) (h:=?_)
 refine Drawn.T 2 (some 212) (h:=?_)
 refine Drawn.T 3 (some 213) (h:=?_)
 refine Drawn.T 4 (some 214) (h:=?_)
 refine Drawn.T 5 (some 215) (h:=?_)
 refine Drawn.T 6 (some 216) (h:=?_)
 refine Drawn.T 8 (some 218) (h:=?_)
 refine Drawn.T 9 (some 219) (h:=?_)
 refine Drawn.cl 7 (fun K hK=>?_)
 go_simp
 refine (readR (HS.out.below (by exact Rd.byB)) ka ha' h1000 ⟨ak,an⟩ hxa.out 3).mono ?_
 rintro e w24 ⟨⟨qa,rfl⟩ | ⟨qa,rfl⟩,hb⟩
 ·simp only at qa
  have ra:=Lib.hid qa
  clear qa
  have kk:∀ (b o:Nat) (u:Value),World.cell? _ ⟨b,o,none⟩=some u→w24.cell? ⟨b,o,none⟩=some u:=fun b o u hc=>kept hb (cell_lt hc) hc
  have yw24_0:=kk (P.cb) (0) (.pointer (some ⟨E.hb,0,none⟩)) (by go_simp)
  have yw24_1:=kk (w.heap.size) (1) (.int .i64 ka) (by go_simp)
  have yw24_2:=kk (w.heap.size) (2) (.int .i64 b) (by go_simp)
  clear kk
  have Hw24:=Lib.hid (show Below w.heap.size w w24 from Below.trans (by exact Rd.byB) (hb.mono Rd.byL))
  clear hb
  go_wp2_with fail
  refine Drawn.bk hK (hS:=by (try dsimp only);exact ⟨yw24_0,yw24_1,yw24_2⟩) (h:=fun hHeld=>?_)
  clear hK K
  refine Drawn.cl 10 (fun K hK=>?_)
  go_simp
  refine (castP (HS.out.below Hw24.out).H hm ⟨ak,an⟩ b HV.out).mono ?_
  rw [hr.out]
  rintro e w25 hR
  cases r with
  | thrown o h2 =>
   obtain ⟨rfl,A⟩:=hR
   obtain ⟨L5,G5,S5⟩:=Gr.of_heap A (HS.out.below Hw24.out)
   unfold pan
   refine And.intro rfl ?_
   unfold rkind
   rw [if_pos ra.out]
   exact plr_thrown ((Gr.of_below Hw24.out).trans G5) S5
  | stop c2 h2 =>
   obtain ⟨rfl,A⟩:=hR
   obtain ⟨L5,G5,S5⟩:=Gr.of_heap A (HS.out.below Hw24.out)
   unfold pan
   refine And.intro rfl ?_
   unfold rkind
   rw [if_pos ra.out]
   exact plr_stop ((Gr.of_below Hw24.out).trans G5) S5
  | ok x h2 =>
   obtain ⟨rfl,A⟩:=hR
   unfold unitV
   obtain ⟨L5,G5,S5⟩:=Gr.of_heap A (HS.out.below Hw24.out)
   have z0:w25.cell? ⟨P.cb,0,none⟩=some (.pointer (some ⟨E.hb,0,none⟩)):=S5.c0
   have z1:=G5.cell (b:=w.heap.size) (o:=1) (v:=.int .i64 ka) nf (by go_simp)
   have z2:=G5.cell (b:=w.heap.size) (o:=2) (v:=.int .i64 b) nf (by go_simp)
   have nf5:=G5.nf (by have:=cell_lt yw24_1;first | exact this | (simp;omega)) nf
   have GB:=Lib.hid ((Gr.of_below Hw24.out).trans G5)
   replace S5:=Lib.hid S5
   clear A G5
   go_wp2_with fail
   refine Drawn.bk hK (hS:=by (try dsimp only);exact ⟨z0,z1,z2⟩) (h:=fun hHeld=>?_)
   clear hK K
   refine wpAnyH_done (by kernel_rfl) ?_ _
   go_wp2
   go_end0
   unfold rkind
   rw [if_pos ra.out]
   exact plr_go GB.out S5.out
 ·have Hw24:=Lib.hid (show Below w.heap.size w w24 from Below.trans (by exact Rd.byB) (hb.mono Rd.byL))
  unfold pan
  refine And.intro rfl ?_
  exact plr_stuckE (by simp [rkind,qa,oA]) (Gr.of_below Hw24.out) (HS.out.below Hw24.out)
set_option maxRecDepth 100000 in
theorem pl23 (S:ST E w L P m d h ⟨rg,ap,Vl.nil,Vl.nil⟩ vs) (hP:Paired rg) (h1000:rg.length≤1000) (a b c n:Int) (args:List Int) (sa:Option Addr) (sn sc:Nat) (hlen:h.out.length≤60000) (ha0:0≤a) (ha':a.toNat < rg.length) :
  Calls Try.prog 77 #[.pointer (some ⟨P.cb,0,none⟩),.agg #[.int .i64 23,.int .i64 a,.int .i64 b,.int .i64 c,.int .i64 n,.slice sa sn sc]] w (PlR E L P m d vs ⟨rg,ap,Vl.nil,Vl.nil⟩ (.tuple #[]) w (oA (rstep E.f E.input m ⟨23,a,b,c,n,args⟩ ⟨rg,ap,Vl.nil,Vl.nil⟩ h))):=by
 obtain ⟨ka,rfl⟩:∃ k:Nat,a=(k:Int):=⟨a.toNat,by omega⟩
 obtain ⟨⟨ak,an⟩,hxa⟩:∃ x,Hid (rg.getD ka Vl.nil=x):=⟨_,Lib.hid rfl⟩
 have hra:rd ⟨rg,ap,Vl.nil,Vl.nil⟩ (ka:Int)=⟨ak,an⟩:=by unfold rd;rw [Int.toNat_natCast];exact hxa.out
 rw [rt23]
 rw [hra]
 simp only [Int.toNat_natCast] at ha'
 obtain ⟨r,hr⟩:∃ r,Hid (Run.emit ⟨ak,an⟩ b h=r):=⟨_,Lib.hid rfl⟩
 rw [hr.out]
 have HS:=Lib.hid S
 have hcb:=S.cbw
 have hcb1:P.cb < w.heap.size+1:=by omega
 have nf:=S.fo_new (Nat.le_refl _)
 have c0:w.cell? ⟨P.cb,0,none⟩=some (.pointer (some ⟨E.hb,0,none⟩)):=S.c0
 have c9:w.cell? ⟨P.cb,9,none⟩=some (.slice (some ⟨P.lb,0,none⟩) rg.length rg.length):=S.c9
 have hfl:=fieldN
 clear S
 go_enter Try.func77,Try.ntmps77
 go_wp2_with fail
 refine Drawn.hd (fun w'=>w'.cell? ⟨P.cb,0,none⟩=some (.pointer (some ⟨E.hb,0,none⟩))∧w'.cell? ⟨w.heap.size,1,none⟩=some (.int .i64 ka)∧w'.cell? ⟨w.heap.size,2,none⟩=some (.int .i64 b)) (h:=fun hHeld=>?_)
 refine Drawn.T 0 (some 243) (h:=?_)
 refine Drawn.T 1 (some 244) (h:=?_)
 refine Drawn.T 2 (some 245) (h:=?_)
 refine Drawn.T 3 (some 246) (h:=?_)
 refine Drawn.T 4 (some 247) (h:=?_)
 refine Drawn.T 5 (some 248) (h:=?_)
 refine Drawn.T 6 (some 249) (h:=?_)
 refine Drawn.T 7 (some 250) (h:=?_)
 refine Drawn.T 8 (some 251) (h:=?_)
 refine Drawn.T 10 (some 253) (h:=?_)
 refine Drawn.T 11 (some 254) (h:=?_)
 refine Drawn.cl 9 (fun K hK=>?_)
 go_simp
 refine (readR (HS.out.below (by exact Rd.byB)) ka ha' h1000 ⟨ak,an⟩ hxa.out b).mono ?_
 rintro e w26 ⟨⟨qa,rfl⟩ | ⟨qa,rfl⟩,hb⟩
 ·simp only at qa
  have ra:=Lib.hid qa
  clear qa
  have kk:∀ (b o:Nat) (u:Value),World.cell? _ ⟨b,o,none⟩=some u→w26.cell? ⟨b,o,none⟩=some u:=fun b o u hc=>kept hb (cell_lt hc) hc
  have yw26_0:=kk (P.cb) (0) (.pointer (some ⟨E.hb,0,none⟩)) (by go_simp)
  have yw26_1:=kk (w.heap.size) (1) (.int .i64 ka) (by go_simp)
  have yw26_2:=kk (w.heap.size) (2) (.int .i64 b) (by go_simp)
  clear kk
  have Hw26:=Lib.hid (show Below w.heap.size w w26 from Below.trans (by exact Rd.byB) (hb.mono Rd.byL))
  clear hb
  go_wp2_with fail
  refine Drawn.bk hK (hS:=by (try dsimp only);exact ⟨yw26_0,yw26_1,yw26_2⟩) (h:=fun hHeld=>?_)
  clear hK K
  refine Drawn.cl 12 (fun K hK=>?_)
  go_simp
  refine (emitP (HS.out.below Hw26.out).H ⟨ak,an⟩ b hlen).mono ?_
  rw [hr.out]
  rintro e w27 hR
  cases r with
  | thrown o h2 =>
   obtain ⟨rfl,A⟩:=hR
   obtain ⟨L5,G5,S5⟩:=Gr.of_heap A (HS.out.below Hw26.out)
   unfold pan
   refine And.intro rfl ?_
   unfold rkind
   rw [if_pos ra.out]
   exact plr_thrown ((Gr.of_below Hw26.out).trans G5) S5
  | stop c2 h2 =>
   obtain ⟨rfl,A⟩:=hR
   obtain ⟨L5,G5,S5⟩:=Gr.of_heap A (HS.out.below Hw26.out)
   unfold pan
   refine And.intro rfl ?_
   unfold rkind
   rw [if_pos ra.out]
   exact plr_stop ((Gr.of_below Hw26.out).trans G5) S5
  | ok x h2 =>
   obtain ⟨rfl,A⟩:=hR
   obtain ⟨L5,G5,S5⟩:=Gr.of_heap A (HS.out.below Hw26.out)
   have z0:w27.cell? ⟨P.cb,0,none⟩=some (.pointer (some ⟨E.hb,0,none⟩)):=S5.c0
   have z1:=G5.cell (b:=w.heap.size) (o:=1) (v:=.int .i64 ka) nf (by go_simp)
   have z2:=G5.cell (b:=w.heap.size) (o:=2) (v:=.int .i64 b) nf (by go_simp)
   have nf5:=G5.nf (by have:=cell_lt yw26_1;first | exact this | (simp;omega)) nf
   have GB:=Lib.hid ((Gr.of_below Hw26.out).trans G5)
   replace S5:=Lib.hid S5
   clear A G5
   go_wp2_with fail
   refine Drawn.bk hK (hS:=by (try dsimp only);exact ⟨z0,z1,z2⟩) (h:=fun hHeld=>?_)
   clear hK K
   refine wpAnyH_done (by kernel_rfl) ?_ _
   go_wp2
   go_end0
   unfold rkind
   rw [if_pos ra.out]
   exact plr_go GB.out S5.out
 ·have Hw26:=Lib.hid (show Below w.heap.size w w26 from Below.trans (by exact Rd.byB) (hb.mono Rd.byL))
  unfold pan
  refine And.intro rfl ?_
  exact plr_stuckE (by simp [rkind,qa,oA]) (Gr.of_below Hw26.out) (HS.out.below Hw26.out)
end
end Hpr
namespace Hpr
open Num Rd D Run Mem HierW Hpw
section
variable {E:Ev}{w w' w1 w2:World}{L L' L1:Lay}{h h' h1 h2:Hp}{d:Nat}{P:PS}{m:Me}{vs vs1:Value}{rg:List Vl}{ap:Nat}
set_option maxRecDepth 100000 in
theorem pl15 (S:ST E w L P m d h ⟨rg,ap,Vl.nil,Vl.nil⟩ vs) (hP:Paired rg) (h1000:rg.length≤1000) (a b c n:Int) (args:List Int) (sa:Option Addr) (sn sc:Nat) (hm:Hier.may E.f.classes=true) (HO:HpOk E.f.classes E.input E.fuel h) (ha0:0≤a) (ha':a.toNat < rg.length) (hb0:0≤b) (hb':b.toNat < rg.length) (hc0:0≤c) (hc1:c < E.f.classes.length) (hn0:0≤n) (hn1:n < ((Hier.at' E.f.classes c.toNat).fields.length:Int)) (hvb:VlOk h.objs.length (rd ⟨rg,ap,Vl.nil,Vl.nil⟩ b)) (hva:VlOk h.objs.length (rd ⟨rg,ap,Vl.nil,Vl.nil⟩ a)) :
  Calls Try.prog 77 #[.pointer (some ⟨P.cb,0,none⟩),.agg #[.int .i64 15,.int .i64 a,.int .i64 b,.int .i64 c,.int .i64 n,.slice sa sn sc]] w (PlR E L P m d vs ⟨rg,ap,Vl.nil,Vl.nil⟩ (.tuple #[]) w (oA (rstep E.f E.input m ⟨15,a,b,c,n,args⟩ ⟨rg,ap,Vl.nil,Vl.nil⟩ h))):=by
 obtain ⟨ka,rfl⟩:∃ k:Nat,a=(k:Int):=⟨a.toNat,by omega⟩
 obtain ⟨kb,rfl⟩:∃ k:Nat,b=(k:Int):=⟨b.toNat,by omega⟩
 obtain ⟨kc,rfl⟩:∃ k:Nat,c=(k:Int):=⟨c.toNat,by omega⟩
 obtain ⟨kn,rfl⟩:∃ k:Nat,n=(k:Int):=⟨n.toNat,by omega⟩
 obtain ⟨⟨ak,an⟩,hxa⟩:∃ x,Hid (rg.getD ka Vl.nil=x):=⟨_,Lib.hid rfl⟩
 have hra:rd ⟨rg,ap,Vl.nil,Vl.nil⟩ (ka:Int)=⟨ak,an⟩:=by unfold rd;rw [Int.toNat_natCast];exact hxa.out
 obtain ⟨⟨bk,bn⟩,hxb⟩:∃ x,Hid (rg.getD kb Vl.nil=x):=⟨_,Lib.hid rfl⟩
 have hrb:rd ⟨rg,ap,Vl.nil,Vl.nil⟩ (kb:Int)=⟨bk,bn⟩:=by unfold rd;rw [Int.toNat_natCast];exact hxb.out
 have HS0:=S.H
 obtain ⟨ca,ccap,hvc,c1,c2,hel⟩:=id HS0.cls
 obtain ⟨cb,co,rfl,hcb',he⟩:=hel kc (by omega)
 obtain ⟨x,hx⟩:=at_of (show kc < E.f.classes.length by omega)
 rw [hx.out] at he
 obtain ⟨_,_,fv,e2,hf⟩:=he
 have hfx:Hier.at' E.f.classes kc=x:=atOf (by omega) hx.out
 rw [Int.toNat_natCast,hfx] at hn1
 obtain ⟨fa,fcap,rfl,c3,c4,hfe⟩:=hf
 obtain ⟨fb,fo,rfl,hfb,hfe2⟩:=hfe kn (by omega)
 obtain ⟨t,htt⟩:=at_of (show kn < x.fields.length by omega)
 rw [htt.out] at hfe2
 obtain ⟨t1,_,_,_⟩:=hfe2
 have hft:ftype E.f.classes kc kn=t:=by
  unfold ftype
  rw [Int.toNat_natCast,Int.toNat_natCast,hfx,List.getD_eq_getElem?_getD,List.getElem?_eq_getElem (show kn < x.fields.length by omega),htt.out];rfl
 obtain ⟨tk,tc⟩:=t
 simp only at t1
 have h00:=HS0.c0
 rw [hvc] at h00
 have hhb:=HS0.hbw
 have hbs:=S.base
 have lcb:cb < w.heap.size:=by omega
 have lfb:fb < w.heap.size:=by omega
 have HPUT:=fun (W:World) (hW:PH E W L h d)=>putP hW hm HO (rd ⟨rg,ap,Vl.nil,Vl.nil⟩ kb) (rd ⟨rg,ap,Vl.nil,Vl.nil⟩ ka) kc kn hvb hva ⟨by omega,by omega⟩ ⟨by omega,by rw [Int.toNat_natCast,hfx];omega⟩
 rw [rt15]
 rw [hft] at HPUT ⊢
 rw [hra,hrb] at HPUT ⊢
 simp only [Int.toNat_natCast] at ha' hb'
 obtain ⟨ncl,hncl⟩:∃ q,q=E.f.classes.length:=⟨_,rfl⟩
 obtain ⟨nfl,hnfl⟩:∃ q,q=x.fields.length:=⟨_,rfl⟩
 have hci:(kc:Int) < ncl:=by omega
 have hki:(kn:Int) < nfl:=by omega
 rw [← hncl] at h00 hvc
 have hvc':=Lib.hid hvc
 have ncb:¬ Hpr.fo E L P vs cb:=fun hk=>by have:=(S.fo_lo hk).1;omega
 have nfb:¬ Hpr.fo E L P vs fb:=fun hk=>by have:=(S.fo_lo hk).1;omega
 rw [← hnfl] at e2
 obtain ⟨r,hr⟩:∃ r,Hid (Run.put E.f.classes ⟨bk,bn⟩ kc kn ⟨ak,an⟩ ⟨tk,tc⟩ h=r):=⟨_,Lib.hid rfl⟩
 rw [hr.out] at HPUT ⊢
 replace HPUT:=Lib.hid HPUT
 replace HO:=Lib.hid HO
 have hft':=Lib.hid hft
 clear HS0 hel hfe hva hvb hc1 hn1 hft hfx hncl hnfl htt hx hvc
 have HS:=Lib.hid S
 have hcb:=S.cbw
 have hcb1:P.cb < w.heap.size+1:=by omega
 have nf:=S.fo_new (Nat.le_refl _)
 have c0:w.cell? ⟨P.cb,0,none⟩=some (.pointer (some ⟨E.hb,0,none⟩)):=S.c0
 have c9:w.cell? ⟨P.cb,9,none⟩=some (.slice (some ⟨P.lb,0,none⟩) rg.length rg.length):=S.c9
 have hfl:=fieldN
 clear S
 go_enter Try.func77,Try.ntmps77
 go_wp2_with fail
 refine (readR (HS.out.below (by exact Rd.byB)) kb hb' h1000 ⟨bk,bn⟩ hxb.out 3).mono ?_
 rintro e w2 ⟨⟨qb,rfl⟩ | ⟨qb,rfl⟩,hb⟩
 ·simp only at qb
  subst qb
  have hbw2:Below w.heap.size w w2:=Below.trans (by exact Rd.byB) (hb.mono Rd.byL)
  have i1:w2.cell? ⟨w.heap.size,1,none⟩=some (.int .i64 ka):=kept hb Rd.byL (by go_simp)
  have i3:w2.cell? ⟨w.heap.size,3,none⟩=some (.int .i64 kc):=kept hb Rd.byL (by go_simp)
  have i4:w2.cell? ⟨w.heap.size,4,none⟩=some (.int .i64 kn):=kept hb Rd.byL (by go_simp)
  have j0:=kept hbw2 hcb c0
  have j1:=kept hbw2 hhb h00
  have j2:=kept hbw2 lcb e2
  have j3:=kept hbw2 lfb t1
  have hs2:w.heap.size < w2.heap.size:=cell_lt i1
  have hsle:w.heap.size≤w2.heap.size:=by omega
  have g1:=cell_lt j0
  have g2:=cell_lt j1
  have g3:=cell_lt j2
  have g4:=cell_lt j3
  have nbx:¬ Hpr.fo E L P vs w2.heap.size:=HS.out.fo_new hsle
  clear hb c0 c9 h00 e2 t1
  go_wp2_with fail
  refine Drawn.hd (fun w'=>w'.cell? ⟨P.cb,0,none⟩=some (.pointer (some ⟨E.hb,0,none⟩))∧w'.cell? ⟨E.hb,0,none⟩=some (.slice (some ⟨cb,co,none⟩) ncl ccap)∧w'.cell? ⟨cb,co+kc*2+1,none⟩=some (.slice (some ⟨fb,fo,none⟩) nfl fcap)∧w'.cell? ⟨fb,fo+kn*2,none⟩=some (.int .i64 tk)∧w'.cell? ⟨w2.heap.size,0,none⟩=some (.int .i64 3)∧w'.cell? ⟨w2.heap.size,1,none⟩=some (.int .i64 bn)∧w'.cell? ⟨w.heap.size,1,none⟩=some (.int .i64 ka)∧w'.cell? ⟨w.heap.size,3,none⟩=some (.int .i64 kc)∧w'.cell? ⟨w.heap.size,4,none⟩=some (.int .i64 kn)) (h:=fun hHeld=>?_)
  refine Drawn.T 0 (some 176) (h:=?_)
  refine Drawn.T 1 (some 177) (h:=?_)
  refine Drawn.T 2 (some 178) (h:=?_)
  refine Drawn.T 3 (some 179) (h:=?_)
  refine Drawn.T 4 (some 180) (h:=?_)
  refine Drawn.T 5 (some 181) (h:=?_)
  refine Drawn.T 6 (some 182) (h:=?_)
  refine Drawn.T 7 (some 183) (h:=?_)
  refine Drawn.T 8 (some 184) (h:=?_)
  refine Drawn.T 9 (some 185) (h:=?_)
  refine Drawn.T 10 (some 186) (h:=?_)
  refine Drawn.T 11 (some 187) (h:=?_)
  refine Drawn.T 12 (some 188) (h:=?_)
  refine Drawn.T 13 (some 189) (h:=?_)
  refine Drawn.T 14 (some 190) (h:=?_)
  refine Drawn.T 15 (some 191) (h:=?_)
  refine Drawn.T 16 (some 192) (h:=?_)
  refine Drawn.T 17 (some 193) (h:=?_)
  refine Drawn.T 18 (some 194) (h:=?_)
  refine Drawn.T 19 (some 195) (h:=?_)
  refine Drawn.T 20 (some 196) (h:=?_)
  refine Drawn.T 21 (some 197) (h:=?_)
  refine Drawn.T 22 (some 198) (h:=?_)
  refine Drawn.T 23 (some 199) (h:=?_)
  refine Drawn.T 24 (some 200) (h:=?_)
  refine Drawn.T 25 (some 201) (h:=?_)
  refine Drawn.T 26 (some 202) (h:=?_)
  refine Drawn.T 27 (some 203) (h:=?_)
  refine Drawn.T 28 (some 204) (h:=?_)
  refine Drawn.T 29 (some 205) (h:=?_)
  refine Drawn.cl 30 (fun K hK=>?_)
  go_simp
  refine (readR (HS.out.below (by exact Rd.byB)) ka ha' h1000 ⟨ak,an⟩ hxa.out tk).mono ?_
  rintro e w28 ⟨⟨qa,rfl⟩ | ⟨qa,rfl⟩,hb⟩
  ·simp only at qa
   have ra:=Lib.hid qa
   clear qa
   have kk:∀ (b o:Nat) (u:Value),World.cell? _ ⟨b,o,none⟩=some u→w28.cell? ⟨b,o,none⟩=some u:=fun b o u hc=>kept hb (cell_lt hc) hc
   have yw28_0:=kk (P.cb) (0) (.pointer (some ⟨E.hb,0,none⟩)) (by go_simp)
   have yw28_1:=kk (E.hb) (0) (.slice (some ⟨cb,co,none⟩) ncl ccap) (by go_simp)
   have yw28_2:=kk (cb) (co+kc*2+1) (.slice (some ⟨fb,fo,none⟩) nfl fcap) (by go_simp)
   have yw28_3:=kk (fb) (fo+kn*2) (.int .i64 tk) (by go_simp)
   have yw28_4:=kk (w2.heap.size) (0) (.int .i64 3) (by go_simp)
   have yw28_5:=kk (w2.heap.size) (1) (.int .i64 bn) (by go_simp)
   have yw28_6:=kk (w.heap.size) (1) (.int .i64 ka) (by go_simp)
   have yw28_7:=kk (w.heap.size) (3) (.int .i64 kc) (by go_simp)
   have yw28_8:=kk (w.heap.size) (4) (.int .i64 kn) (by go_simp)
   clear kk
   have Hw28:=Lib.hid (show Below w.heap.size w w28 from Below.trans (by exact Rd.byB) (hb.mono Rd.byL))
   clear hb
   go_wp2_with fail
   refine Drawn.bk hK (hS:=by (try dsimp only);exact ⟨yw28_0,yw28_1,yw28_2,yw28_3,yw28_4,yw28_5,yw28_6,yw28_7,yw28_8⟩) (h:=fun hHeld=>?_)
   clear hK K
   refine Drawn.cl 31 (fun K hK=>?_)
   go_simp
   refine (HPUT.out _ (HS.out.below Hw28.out).H).mono ?_
   rintro e w29 hR
   cases r with
   | thrown o h2 =>
    obtain ⟨rfl,A⟩:=hR
    obtain ⟨L5,G5,S5⟩:=Gr.of_heap A (HS.out.below Hw28.out)
    unfold pan
    refine And.intro rfl ?_
    unfold rkind
    rw [if_pos rfl,if_pos ra.out]
    exact plr_thrown ((Gr.of_below Hw28.out).trans G5) S5
   | stop c2 h2 =>
    obtain ⟨rfl,A⟩:=hR
    obtain ⟨L5,G5,S5⟩:=Gr.of_heap A (HS.out.below Hw28.out)
    unfold pan
    refine And.intro rfl ?_
    unfold rkind
    rw [if_pos rfl,if_pos ra.out]
    exact plr_stop ((Gr.of_below Hw28.out).trans G5) S5
   | ok x h2 =>
    obtain ⟨rfl,A⟩:=hR
    obtain ⟨L5,G5,S5⟩:=Gr.of_heap A (HS.out.below Hw28.out)
    have z0:w29.cell? ⟨P.cb,0,none⟩=some (.pointer (some ⟨E.hb,0,none⟩)):=S5.c0
    have z1:w29.cell? ⟨E.hb,0,none⟩=some (.slice (some ⟨cb,co,none⟩) ncl ccap):=by have q:=S5.H.c0;rw [hvc'.out] at q;exact q
    have z2:=G5.cell (b:=cb) (o:=co+kc*2+1) (v:=.slice (some ⟨fb,fo,none⟩) nfl fcap) ncb (by go_simp)
    have z3:=G5.cell (b:=fb) (o:=fo+kn*2) (v:=.int .i64 tk) nfb (by go_simp)
    have z4:=G5.cell (b:=w2.heap.size) (o:=0) (v:=.int .i64 3) nbx (by go_simp)
    have z5:=G5.cell (b:=w2.heap.size) (o:=1) (v:=.int .i64 bn) nbx (by go_simp)
    have z6:=G5.cell (b:=w.heap.size) (o:=1) (v:=.int .i64 ka) nf (by go_simp)
    have z7:=G5.cell (b:=w.heap.size) (o:=3) (v:=.int .i64 kc) nf (by go_simp)
    have z8:=G5.cell (b:=w.heap.size) (o:=4) (v:=.int .i64 kn) nf (by go_simp)
    have nf5:=G5.nf (by have:=cell_lt yw28_6;first | exact this | (simp;omega)) nf
    have GB:=Lib.hid ((Gr.of_below Hw28.out).trans G5)
    replace S5:=Lib.hid S5
    clear A G5
    go_wp2_with fail
    refine Drawn.bk hK (hS:=by (try dsimp only);exact ⟨z0,z1,z2,z3,z4,z5,z6,z7,z8⟩) (h:=fun hHeld=>?_)
    clear hK K
    refine wpAnyH_done (by kernel_rfl) ?_ _
    go_wp2
    go_end0
    unfold rkind
    rw [if_pos rfl,if_pos ra.out]
    exact plr_go GB.out S5.out
  ·have Hw28:=Lib.hid (show Below w.heap.size w w28 from Below.trans (by exact Rd.byB) (hb.mono Rd.byL))
   unfold pan
   refine And.intro rfl ?_
   exact plr_stuckE (by simp [rkind,qa,oA]) (Gr.of_below Hw28.out) (HS.out.below Hw28.out)
 ·have HBw2:=Lib.hid (show Below w.heap.size w w2 from Below.trans (by exact Rd.byB) (hb.mono Rd.byL))
  unfold pan
  refine And.intro rfl ?_
  exact plr_stuckE (by simp [rkind,qb,oA]) (Gr.of_below HBw2.out) (HS.out.below HBw2.out)
end
end Hpr
namespace Hpr
open Num Rd D Run Mem HierW Hpw
theorem reg_w {regs a kind:Int}{n:Nat}{v:Vl}(h:Rform.reg regs a kind=true) (hl:n=regs.toNat) (hk:v.kind=2→kind=2):a.toNat+width v≤n:=by
 obtain ⟨h0,h1,h2⟩:=reg_iff h
 unfold width
 split
 ·rename_i q;have:=h2 (hk q);omega
 ·omega
theorem reg_l {regs a kind:Int}{n:Nat}(h:Rform.reg regs a kind=true) (hl:n=regs.toNat):0≤a∧a.toNat < n:=by
 obtain ⟨h0,h1,h2⟩:=reg_iff h
 exact ⟨h0,by omega⟩
theorem reckon_kind {l:List Cls}{a b v:Vl}{k op:Int}{h h':Hp}(e:Run.reckon l a b k op h=.ok v h'):v.kind=k:=by
 unfold Run.reckon at e
 split at e
 ·cases e
 ·split at e
  ·unfold Run.raise at e
   cases hn:Run.new l 2 h <;> rw [hn] at e <;> cases e
  ·cases e;rfl
theorem new_kind {l:List Cls}{v:Vl}{cl:Int}{h h':Hp}(e:Run.new l cl h=.ok v h'):v.kind=3:=by
 unfold Run.new at e
 split at e
 ·cases e
 ·cases e;rfl
theorem isV_kind {l:List Cls}{v x:Vl}{cl:Int}{h h':Hp}(e:Run.isV l v cl h=.ok x h'):x.kind=1:=by
 unfold Run.isV at e
 split at e
 ·cases e
 ·cases e;rfl
section
variable {E:Ev}{w w' w1 w2:World}{L L' L1:Lay}{h h' h1 h2:Hp}{d:Nat}{P:PS}{m:Me}{vs vs1:Value}{rg:List Vl}{ap:Nat}
theorem plain (FS:FiR E.f) (MS:MeR E.f m) (S:ST E w L P m d h ⟨rg,ap,Vl.nil,Vl.nil⟩ vs) (HO:HpOk E.f.classes E.input E.fuel h) (hf:RfOk m h.objs.length ⟨rg,ap,Vl.nil,Vl.nil⟩) (hfu:E.fuel≤60000) (hin:E.input.length≤1000) (i:Ins) (hi:Rform.ins E.f m i=true) (hop:i.op≠10∧i.op≠11∧i.op≠12∧i.op≠18∧i.op≠19∧i.op≠20∧i.op≠21∧i.op≠22) (sa:Option Addr) (sn sc:Nat) :
  Calls Try.prog 77 #[.pointer (some ⟨P.cb,0,none⟩),.agg #[.int .i64 i.op,.int .i64 i.a,.int .i64 i.b,.int .i64 i.c,.int .i64 i.n,.slice sa sn sc]] w (PlR E L P m d vs ⟨rg,ap,Vl.nil,Vl.nil⟩ (.tuple #[]) w (oA (rstep E.f E.input m i ⟨rg,ap,Vl.nil,Vl.nil⟩ h))):=by
 have hl:rg.length=m.regs.toNat:=hf.len
 have hP:Paired rg:=hf.regs.pair
 have h1000:rg.length≤1000:=by have:=MS.regs.2.2;omega
 have hm:=FS.may
 have rv:∀ a:Int,VlOk h.objs.length (rd ⟨rg,ap,Vl.nil,Vl.nil⟩ a):=fun a=>rd_ok hf a
 have r3:∀ a:Int,(rd ⟨rg,ap,Vl.nil,Vl.nil⟩ a).kind=3→(rd ⟨rg,ap,Vl.nil,Vl.nil⟩ a).n < h.objs.length:=fun a e=>((rv a).2.2.2 e).2
 simp only [Rform.ins,Bool.and_eq_true] at hi
 obtain ⟨⟨_,hb⟩,_⟩:=hi
 obtain ⟨op,a,b,c,n,args⟩:=i
 simp only at hop hb ⊢
 by_cases q1:op=1
 ·subst q1
  simp [Rform.body] at hb
  exact pl1 S hP h1000 a b c n args sa sn sc (reg_l hb.1.1 hl).1 (reg_w (v:=⟨1,0⟩) hb.1.1 hl (by simp))
 by_cases q2:op=2
 ·subst q2
  simp [Rform.body] at hb
  exact pl2 S hP h1000 a b c n args sa sn sc (reg_l hb.1.1 hl).1 (reg_w (v:=⟨2,0⟩) hb.1.1 hl (by simp))
 by_cases q3:op=3
 ·subst q3
  simp [Rform.body] at hb
  exact pl3 S hP h1000 a b c n args sa sn sc (reg_l hb.1.1 hl).1 (reg_w (v:=⟨3,0⟩) hb.1.1 hl (by simp))
 by_cases q4:op=4
 ·subst q4
  simp [Rform.body,rng_iff] at hb
  exact pl4 S hP h1000 a b c n args sa sn sc (reg_l hb.2.1 hl).1 (fun e=>reg_w hb.2.1 hl (fun e2=>by rw [← e,e2])) (reg_l hb.2.2 hl).1 (reg_l hb.2.2 hl).2
 by_cases q5:op=5
 ·subst q5
  simp [Rform.body] at hb
  exact pl5 S hP h1000 a b c n args sa sn sc hm (reg_l hb.1 hl).1 (reg_l hb.2.1 hl).1 (reg_l hb.2.1 hl).2 (reg_l hb.2.2 hl).1 (reg_l hb.2.2 hl).2 (rv b).1 (fun v h' e=>reg_w hb.1 hl (fun e2=>by have:=reckon_kind e;omega))
 by_cases q6:op=6
 ·subst q6
  simp [Rform.body] at hb
  exact pl6 S hP h1000 a b c n args sa sn sc hm (reg_l hb.1 hl).1 (reg_l hb.2.1 hl).1 (reg_l hb.2.1 hl).2 (reg_l hb.2.2 hl).1 (reg_l hb.2.2 hl).2 (rv b).1 (fun v h' e=>reg_w hb.1 hl (fun e2=>by have:=reckon_kind e;omega))
 by_cases q7:op=7
 ·subst q7
  simp [Rform.body] at hb
  exact pl7 S hP h1000 a b c n args sa sn sc (reg_l hb.1.1 hl).1 (reg_w (v:=⟨2,0⟩) hb.1.1 hl (by simp)) (reg_l hb.1.2 hl).1 (reg_l hb.1.2 hl).2
 by_cases q8:op=8
 ·subst q8
  simp [Rform.body] at hb
  exact pl8 S hP h1000 a b c n args sa sn sc (reg_l hb.1.1 hl).1 (reg_w (v:=⟨1,0⟩) hb.1.1 hl (by simp)) (reg_l hb.1.2 hl).1 (reg_l hb.1.2 hl).2
 by_cases q9:op=9
 ·subst q9
  simp [Rform.body] at hb
  exact pl9 S hP h1000 a b c n args sa sn sc (reg_l hb.1 hl).1 (reg_w (v:=⟨1,0⟩) hb.1 hl (by simp)) (reg_l hb.2.1 hl).1 (reg_l hb.2.1 hl).2 (reg_l hb.2.2 hl).1 (reg_l hb.2.2 hl).2
 by_cases q13:op=13
 ·subst q13
  simp [Rform.body,rng_iff] at hb
  exact pl13 S hP h1000 a b c n args sa sn sc hm (reg_l hb.1.1 hl).1 (fun v h' e=>reg_w hb.1.1 hl (fun e2=>by have:=new_kind e;omega))
 by_cases q14:op=14
 ·subst q14
  simp [Rform.body,rng_iff] at hb
  refine pl14 S hP h1000 a b c n args sa sn sc hm (reg_l hb.1.2 hl).1 (reg_l hb.2 hl).1 (reg_l hb.2 hl).2 (r3 b) (fun v h' e=>reg_w hb.1.2 hl (fun e2=>?_))
  have hg:=get_ok hm HO (rv b) (c:=c) (k:=n) (by omega) (by have:=hb.1.1.2;unfold Form.nf at this;omega)
  rw [e] at hg
  rw [← e2,hg.2.2.2.2.2];rfl
 by_cases q15:op=15
 ·subst q15
  simp [Rform.body,rng_iff] at hb
  exact pl15 S hP h1000 a b c n args sa sn sc hm HO (reg_l hb.1.2 hl).1 (reg_l hb.1.2 hl).2 (reg_l hb.2 hl).1 (reg_l hb.2 hl).2 hb.1.1.1.1 hb.1.1.1.2 hb.1.1.2.1 (by have:=hb.1.1.2.2;unfold Form.nf at this;exact this) (rv b) (rv a)
 by_cases q16:op=16
 ·subst q16
  simp [Rform.body,rng_iff] at hb
  exact pl16 S hP h1000 a b c n args sa sn sc hm (reg_l hb.1.1 hl).1 (reg_l hb.1.1 hl).2 (r3 a)
 by_cases q17:op=17
 ·subst q17
  simp [Rform.body,rng_iff] at hb
  exact pl17 S hP h1000 a b c n args sa sn sc hm (reg_l hb.1.1 hl).1 (reg_l hb.1.2 hl).1 (reg_l hb.1.2 hl).2 (r3 b) (fun v h' e=>reg_w hb.1.1 hl (fun e2=>by have:=isV_kind e;omega))
 by_cases q23:op=23
 ·subst q23
  simp [Rform.body,rng_iff] at hb
  exact pl23 S hP h1000 a b c n args sa sn sc (by have:=HO.outs;have:=HO.steps;omega) (reg_l hb.1.2 hl).1 (reg_l hb.1.2 hl).2
 by_cases q24:op=24
 ·subst q24
  simp [Rform.body] at hb
  exact pl24 S hP h1000 a b c n args sa sn sc hin (reg_l hb.1.1 hl).1 (fun v h' e=>reg_w hb.1.1 hl (fun e2=>rfl))
 exfalso
 revert hb
 unfold Rform.body
 simp only
 repeat rw [if_neg (by omega)]
 simp
end
end Hpr
end Go.Proofs.Ytncmhenfgbcihac
