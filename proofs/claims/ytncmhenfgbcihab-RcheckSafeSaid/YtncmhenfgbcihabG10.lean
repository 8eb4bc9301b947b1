/- Parts of the proof: Za, Zb, Zb1, Zb2, Zb3, Out, Zc, Zc1, Zc2, Zc3. -/
import Derived.Test.YtncmhenfgbcihabG09
import Derived.Test.YtncmhenfgbcihabG07
import Derived.Deep.Cut
import Derived.Deep.CutRange
set_option linter.unusedSimpArgs false
set_option linter.unusedVariables false
set_option maxHeartbeats 8000000
namespace Go.Proofs.Ytncmhenfgbcihab
open Go.RowKit
namespace Rhq
open Num Rd D Run Mem HierW Hpw Rhw
def qcells (P:Pl) (m:Me) (fr:Rf):List Value:=mcells P.vp P.vc P.vh m++[.slice (some ⟨P.lb,0,none⟩) fr.regs.length fr.regs.length,.int .i64 fr.given.kind,.int .i64 fr.given.n,.int .i64 fr.got.kind,.int .i64 fr.got.n,.int .i64 fr.at_]
structure Fq (E:Ev) (w:World) (L:RL) (P:Pl) (m:Me) (fr:Rf):Prop where
 blk:Blk w P.cb (qcells P m fr)
 loc:Blk w P.lb (vcells fr.regs)
 lbw:P.lb < w.heap.size
 lo:E.B≤P.cb∧E.B≤P.lb
 far:¬ own E L P.cb∧¬ own E L P.lb
 ne:P.cb≠P.lb
section
variable {E:Ev}{w w' w1 w2:World}{L L':RL}{h h':Hp}{d:Nat}{s:Sv}{P:Pl}{m:Me}{fr fr2:Rf}
theorem Fq.cbw (F:Fq E w L P m fr):P.cb < w.heap.size:=cell_lt (F.blk 0 (by simp [qcells,mcells])).1
theorem Fq.c0 (F:Fq E w L P m fr):w.cell? ⟨P.cb,0,none⟩=some P.vp:=(F.blk 0 (by simp [qcells,mcells])).1
theorem Fq.c1 (F:Fq E w L P m fr):w.cell? ⟨P.cb,1,none⟩=some (.int .i64 m.ret.kind):=(F.blk 1 (by simp [qcells,mcells])).1
theorem Fq.c2 (F:Fq E w L P m fr):w.cell? ⟨P.cb,2,none⟩=some (.int .i64 m.ret.cls):=(F.blk 2 (by simp [qcells,mcells])).1
theorem Fq.c8 (F:Fq E w L P m fr):w.cell? ⟨P.cb,8,none⟩=some (.slice (some ⟨P.lb,0,none⟩) fr.regs.length fr.regs.length):=(F.blk 8 (by simp [qcells,mcells])).1
theorem Fq.c9 (F:Fq E w L P m fr):w.cell? ⟨P.cb,9,none⟩=some (.int .i64 fr.given.kind):=(F.blk 9 (by simp [qcells,mcells])).1
theorem Fq.c10 (F:Fq E w L P m fr):w.cell? ⟨P.cb,10,none⟩=some (.int .i64 fr.given.n):=(F.blk 10 (by simp [qcells,mcells])).1
theorem Fq.c11 (F:Fq E w L P m fr):w.cell? ⟨P.cb,11,none⟩=some (.int .i64 fr.got.kind):=(F.blk 11 (by simp [qcells,mcells])).1
theorem Fq.c12 (F:Fq E w L P m fr):w.cell? ⟨P.cb,12,none⟩=some (.int .i64 fr.got.n):=(F.blk 12 (by simp [qcells,mcells])).1
theorem Fq.c13 (F:Fq E w L P m fr):w.cell? ⟨P.cb,13,none⟩=some (.int .i64 fr.at_):=(F.blk 13 (by simp [qcells,mcells])).1
theorem Fq.fz (F:Fq E w L P m fr) (k:Nat) (hk:k < 14):w.frozen? ⟨P.cb,k,none⟩=false:=(F.blk k (by simp [qcells,mcells];exact hk)).2
theorem Fq.heap (F:Fq E w L P m fr) (K:Kp (own E L) w w') (N:∀ k,own E L' k→own E L k∨w.heap.size≤k):Fq E w' L' P m fr:=by
 have hc:=F.cbw;have hl:=F.lbw;refine ⟨F.blk.next K F.far.1,F.loc.next K F.far.2,Nat.lt_of_lt_of_le hl K.size,F.lo,⟨fun hk=>?_,fun hk=>?_⟩,F.ne⟩
 ·rcases N _ hk with q | q
  ·exact F.far.1 q
  ·omega
 ·rcases N _ hk with q | q
  ·exact F.far.2 q
  ·omega
theorem Fq.below (F:Fq E w L P m fr) (hb:Below w.heap.size w w'):Fq E w' L P m fr:=F.heap (kpB hb) same_own
theorem Fq.own (F:Fq E w L P m fr) (K:Kp (fun k=>k=P.cb) w w') (B:Blk w' P.cb (qcells P m fr2)) (hl:fr2.regs=fr.regs):Fq E w' L P m fr2 :=
 ⟨B,by rw [hl];exact F.loc.next K (fun e=>F.ne e.symm),Nat.lt_of_lt_of_le F.lbw K.size,F.lo,F.far,F.ne⟩
theorem Fq.setAt (F:Fq E w L P m fr) (a:Nat):Fq E (w.setCell ⟨P.cb,13,none⟩ (.int .i64 a)) L P m ⟨fr.regs,a,fr.given,fr.got⟩ :=
 F.own (Kp.setCell (Kp.refl (fun k=>k=P.cb) w) (p:=⟨P.cb,13,none⟩) (.inl rfl) _) (F.blk.set 13 (by simp [qcells,mcells]) _) rfl
theorem Fq.setGiven (F:Fq E w L P m fr) (v:Vl):Fq E ((w.setCell ⟨P.cb,9,none⟩ (.int .i64 v.kind)).setCell ⟨P.cb,10,none⟩ (.int .i64 v.n)) L P m ⟨fr.regs,fr.at_,v,fr.got⟩ :=
 F.own ((Kp.setCell (Kp.refl (fun k=>k=P.cb) w) (p:=⟨P.cb,9,none⟩) (.inl rfl) _).setCell (p:=⟨P.cb,10,none⟩) (.inl rfl) _) ((F.blk.set 9 (by simp [qcells,mcells]) (.int .i64 v.kind)).set 10 (by simp [qcells,mcells]) (.int .i64 v.n)) rfl
theorem Fq.setGot (F:Fq E w L P m fr) (v:Vl):Fq E ((w.setCell ⟨P.cb,11,none⟩ (.int .i64 v.kind)).setCell ⟨P.cb,12,none⟩ (.int .i64 v.n)) L P m ⟨fr.regs,fr.at_,fr.given,v⟩ :=
 F.own ((Kp.setCell (Kp.refl (fun k=>k=P.cb) w) (p:=⟨P.cb,11,none⟩) (.inl rfl) _).setCell (p:=⟨P.cb,12,none⟩) (.inl rfl) _) ((F.blk.set 11 (by simp [qcells,mcells]) (.int .i64 v.kind)).set 12 (by simp [qcells,mcells]) (.int .i64 v.n)) rfl
theorem Fq.store (F:Fq E w L P m fr){l:List Vl}(hl:l.length=fr.regs.length) (B:Blk w' P.lb (vcells l)) (K:Kp (fun k=>k=P.lb) w w'):Fq E w' L P m ⟨l,fr.at_,fr.given,fr.got⟩:=by
 refine ⟨?_,B,Nat.lt_of_lt_of_le F.lbw K.size,F.lo,F.far,F.ne⟩
 have:=F.blk.next K F.ne
 unfold qcells at this ⊢;simp only;rw [hl];exact this
theorem frameQ (H:RH E w L h d s) (F:Fq E w L P m fr) (K:Kp (fun k=>k=P.cb∨k=P.lb) w w'):RH E w' L h d s :=
 H.keep K (fun k hk=>by
  rcases hk with e | e
  ·subst e;exact ⟨F.lo.1,F.far.1⟩
  ·subst e;exact ⟨F.lo.2,F.far.2⟩)
def rdS (s:Sv) (k kd:Int):Sv:=if s.over=true∨k=kd then s else Sv.ends 6
set_option maxRecDepth 100000 in
theorem readq (H:RH E w L h d s) (hs:s.thrown = -1) (F:Fq E w L P m fr) (k:Nat) (hk:k < fr.regs.length) (h1000:fr.regs.length≤1000) (x:Vl) (hx:Hid (fr.regs.getD k Vl.nil=x)) (kd:Int) :
  Calls Try.prog 116 #[.pointer (some ⟨E.hb,0,none⟩),.pointer (some ⟨P.cb,0,none⟩),.int .i64 k,.int .i64 kd] w (Keeps E L h d (rdS s x.kind kd) w (.agg #[.int .i64 x.kind,.int .i64 x.n])):=by
 have HH:=Lib.hid H;have hhb:=H.rows.base.2;obtain ⟨z0,z1⟩:=Blk.getV F.loc hk;rw [hx.out] at z0 z1;have c8:=F.c8;have hcb:=F.cbw;have hlb:=F.lbw;obtain ⟨xk,xn⟩:=x;have hk1:(k:Int) < fr.regs.length:=by omega
 have HS:=Lib.hid hs;clear H F hs
 go_enter Try.func116,Try.ntmps116
 go_wp2_with fail
 generalize hWW:World.alloc _ _=W
 replace hWW:=Lib.hid hWW;have HB:=Lib.hid (show Below w.heap.size w W from by rw [← hWW.out];exact Rd.byB)
 have k0:W.cell? ⟨w.heap.size+1,0,none⟩=some (.int .i64 xk):=by rw [← hWW.out];go_simp
 have k1:W.cell? ⟨w.heap.size+1,1,none⟩=some (.int .i64 xn):=by rw [← hWW.out];go_simp
 have r0:W.cell? ⟨w.heap.size,0,none⟩=some (.int .i64 0):=by rw [← hWW.out];go_simp
 have r1:W.cell? ⟨w.heap.size,1,none⟩=some (.int .i64 0):=by rw [← hWW.out];go_simp
 have f0:W.frozen? ⟨w.heap.size,0,none⟩=false:=by rw [← hWW.out];go_simp
 have f1:W.frozen? ⟨w.heap.size,1,none⟩=false:=by rw [← hWW.out];go_simp
 have ne:w.heap.size≠E.hb:=by omega
 have ne2:w.heap.size+1≠E.hb:=by omega
 have lk:=cell_lt k0;have lr:=cell_lt r0;clear hWW z0 z1 c8;refine Drawn.hd (fun w'=>w'.cell? ⟨w.heap.size+1,0,none⟩=some (.int .i64 xk)) (h:=fun hHeld=>?_);refine dT 0 17 ?_;refine dT 1 18 ?_;refine dT 2 19 ?_;refine dT 3 20 ?_;refine dT 4 21 ?_;refine dT 5 22 ?_;have HB2:=Lib.hid (show Below w.heap.size w W.drew from HB.out.trans (by exact Rd.byB))
 have H2:=Lib.hid (HH.out.below HB2.out);have HR:=Lib.hid (HH.out.below HB.out);have HBR:=HB
 cases ho:s.over with
 | true =>
  have e:rdS s xk kd=s:=by unfold rdS;rw [if_pos (.inl ho)]
  replace e:=Lib.hid e;refine dT 6 23 ?_;refine Drawn.cl 7 (fun K hK=>?_);go_simp;refine (mustO H2.out ho _).mono ?_;rintro e w2 ⟨rfl,rfl⟩
  go_wp2_with fail
  refine Drawn.bk hK (h:=fun hHeld=>?_);clear hK K;refine dN ?_
  go_wp2_with fail
  refine bodyPost_ret (v:=.agg #[.int .i64 xk,.int .i64 xn]) (by simp [results,Try.results116,go_sem] <;> go_simp) rfl ?_
  exact ⟨rfl,by rw [e.out];exact (HR.out.res2 (fresh_b HH.out (Nat.le_refl _)) _ _).below (by exact Rd.byB),(kres2 (kpB HBR.out) (Nat.le_refl _) _ _).trans (kpB (X:=own E L) (by exact Rd.byB)) (fun _ h=>.inl h)⟩
 | false =>
  by_cases q:xk=kd
  ·have e:rdS s xk kd=s:=by unfold rdS;rw [if_pos (.inr q)]
   replace e:=Lib.hid e;have qb:(xk==kd)=true:=by simpa using q
   clear q;refine dT 6 23 ?_;refine Drawn.cl 7 (fun K hK=>?_);go_simp;refine (mustT H2.out ho).mono ?_;rintro e w2 ⟨rfl,rfl⟩
   go_wp2_with fail
   refine Drawn.bk hK (h:=fun hHeld=>?_);clear hK K;refine dN ?_
   go_wp2_with fail
   refine bodyPost_ret (v:=.agg #[.int .i64 xk,.int .i64 xn]) (by simp [results,Try.results116,go_sem] <;> go_simp) rfl ?_
   exact ⟨rfl,by rw [e.out];exact (HR.out.res2 (fresh_b HH.out (Nat.le_refl _)) _ _).below (by exact Rd.byB),(kres2 (kpB HBR.out) (Nat.le_refl _) _ _).trans (kpB (X:=own E L) (by exact Rd.byB)) (fun _ h=>.inl h)⟩
  ·have e:rdS s xk kd=Sv.ends 6:=by unfold rdS;rw [if_neg (by rw [ho];simp [q])]
   replace e:=Lib.hid e;have qb:(xk==kd)=false:=by simpa using q
   clear q;obtain ⟨A1,A2⟩:=ended H2.out HS.out 6 (Below.refl _ _);replace A1:=Lib.hid A1;replace A2:=Lib.hid A2;refine dT 6 23 ?_;refine Drawn.cl 7 (fun K hK=>?_);go_simp;refine (mustF H2.out ho).mono ?_;rintro e w2 ⟨rfl,hw2⟩;rw [hw2] at A1 A2;have k0':=A2.out.cell (c:=w.heap.size+1) (o:=0) (v:=.int .i64 xk) (by go_simp) (fun hk=>(fresh_b HH.out (by omega)).2 hk)
   have k1':=A2.out.cell (c:=w.heap.size+1) (o:=1) (v:=.int .i64 xn) (by go_simp) (fun hk=>(fresh_b HH.out (by omega)).2 hk)
   have r0':=A2.out.cell (c:=w.heap.size) (o:=0) (v:=.int .i64 0) (by go_simp) (fun hk=>(fresh_b HH.out (by omega)).2 hk)
   have r1':=A2.out.cell (c:=w.heap.size) (o:=1) (v:=.int .i64 0) (by go_simp) (fun hk=>(fresh_b HH.out (by omega)).2 hk)
   have f0':=A2.out.frz (c:=w.heap.size) (o:=0) (b:=false) (by go_simp) (by first | omega | (simp;omega)) (fun hk=>(fresh_b HH.out (by omega)).2 hk)
   have f1':=A2.out.frz (c:=w.heap.size) (o:=1) (b:=false) (by go_simp) (by first | omega | (simp;omega)) (fun hk=>(fresh_b HH.out (by omega)).2 hk)
   clear hw2
   go_wp2_with fail
   refine Drawn.bk hK (hS:=by (try dsimp only);exact k0') (h:=fun hHeld=>?_)
   clear hK K;refine dN ?_
   go_wp2_with fail
   refine bodyPost_ret (v:=.agg #[.int .i64 xk,.int .i64 xn]) (by simp [results,Try.results116,go_sem] <;> go_simp) rfl ?_
   exact ⟨rfl,by rw [e.out];exact A1.out.res2 (fresh_b HH.out (Nat.le_refl _)) _ _,kres2 ((kpB HB2.out).trans A2.out (fun _ h=>.inl h)) (Nat.le_refl _) _ _⟩
def WrQ (E:Ev) (L:RL) (P:Pl) (m:Me) (h:Hp) (d:Nat) (s:Sv) (fr:Rf) (w:World) (e:Ending) (w':World):Prop:=e=.returned (.tuple #[])∧RH E w' L h d s∧Fq E w' L P m fr∧Kp (KX E L P) w w'
set_option maxRecDepth 100000 in
theorem writeq (H:RH E w L h d Sv.run) (F:Fq E w L P m fr) (hP:Paired fr.regs) (k:Nat) (v:Vl) (hk:k+width v≤fr.regs.length) (h1000:fr.regs.length≤1000) :
  Calls Try.prog 117 #[.pointer (some ⟨E.hb,0,none⟩),.pointer (some ⟨P.cb,0,none⟩),.int .i64 k,.agg #[.int .i64 v.kind,.int .i64 v.n]] w (WrQ E L P m h d Sv.run ⟨Run.store fr.regs k v,fr.at_,fr.given,fr.got⟩ w):=by
 have HH:=Lib.hid H;have HF:=Lib.hid F;have c8:=F.c8;have hcb:=F.cbw;have hlb:=F.lbw;have hcb1:P.cb < w.heap.size+1:=by omega
 obtain ⟨n,hn⟩:∃ n,Hid (n=fr.regs.length):=⟨_,Lib.hid rfl⟩;rw [← hn.out] at c8;obtain ⟨vk,vn⟩:=v;clear H F
 go_enter Try.func117,Try.ntmps117
 go_wp2_with (go_at_call 156;refine (stops (HH.out.below (by exact Rd.byB))).mono ?_;rintro e w2 ⟨rfl,rfl⟩;simp only [Sv.run])
 generalize hWW:World.alloc _ _=W
 replace hWW:=Lib.hid hWW;have HB:=Lib.hid (show Below w.heap.size w W from by rw [← hWW.out];exact Rd.byB)
 have k0:W.cell? ⟨w.heap.size,0,none⟩=some (.int .i64 vk):=by rw [← hWW.out];go_simp
 have k1:W.cell? ⟨w.heap.size,1,none⟩=some (.int .i64 vn):=by rw [← hWW.out];go_simp
 have d8:W.cell? ⟨P.cb,8,none⟩=some (.slice (some ⟨P.lb,0,none⟩) n n):=by rw [← hWW.out];go_simp
 have lk:=cell_lt k0;clear hWW c8
 go_still_tail 6,(by kernel_rfl)
 have HB2:=Lib.hid (show Below w.heap.size w W.drew from HB.out.trans (by exact Rd.byB))
 have F2:=Lib.hid (HF.out.below HB2.out);have H2:=Lib.hid (HH.out.below HB2.out)
 go_wp2_with (go_at_call 101;refine (storeAt n hn.out F2.out.loc F2.out.lbw hP k ⟨vk,vn⟩ hk h1000).mono ?_;rintro e w3 ⟨rfl,B3,K3⟩)
 go_end0
 exact ⟨rfl,frameQ H2.out F2.out (K3.mono (fun k e=>.inr e)),F2.out.store (Run.store_len _ _ _) B3 K3,(kpB HB2.out).trans K3 (fun k e=>.inl (.inr (.inr e)))⟩
set_option maxRecDepth 100000 in
theorem writeS (H:RH E w L h d s) (hs:s.over=true∨0≤s.thrown) (F:Fq E w L P m fr) (k:Int) (v:Vl) :
  Calls Try.prog 117 #[.pointer (some ⟨E.hb,0,none⟩),.pointer (some ⟨P.cb,0,none⟩),.int .i64 k,.agg #[.int .i64 v.kind,.int .i64 v.n]] w (WrQ E L P m h d s fr w):=by
 have HH:=Lib.hid H;have HF:=Lib.hid F;obtain ⟨vk,vn⟩:=v;have hb:(s.over || decide (0≤s.thrown))=true:=by rcases hs with q | q <;> simp [q]
 clear H F hs
 go_enter Try.func117,Try.ntmps117
 go_wp2_with (go_at_call 156;refine (stops (HH.out.below (by exact Rd.byB))).mono ?_;rintro e w2 ⟨rfl,rfl⟩;rw [hb])
 go_end0
 exact ⟨rfl,HH.out.below (by exact Rd.byB),HF.out.below (by exact Rd.byB),kpB (by exact Rd.byB)⟩
end
end Rhq
namespace Rhq
open Num Rd D Run Mem HierW Hpw Rhw
structure GB (E:Ev) (L:RL) (P:Pl) (m:Me) (fr:Rf) (h:Hp) (d:Nat) (w:World) (op a b c n:Int) (va:Value) (s:Sv) (W:World):Prop where
 H:RH E W L h d s
 F:Fq E W L P m fr
 K:Kp (own E L) w W
 i0:W.cell? ⟨w.heap.size,0,none⟩=some (.int .i64 op)
 i1:W.cell? ⟨w.heap.size,1,none⟩=some (.int .i64 a)
 i2:W.cell? ⟨w.heap.size,2,none⟩=some (.int .i64 b)
 i3:W.cell? ⟨w.heap.size,3,none⟩=some (.int .i64 c)
 i4:W.cell? ⟨w.heap.size,4,none⟩=some (.int .i64 n)
 r0:W.cell? ⟨w.heap.size+1,0,none⟩=some (.int .i64 0)
 r1:W.cell? ⟨w.heap.size+1,1,none⟩=some (.int .i64 0)
 f0:W.frozen? ⟨w.heap.size+1,0,none⟩=false
 f1:W.frozen? ⟨w.heap.size+1,1,none⟩=false
 n0:W.cell? ⟨w.heap.size+1+1,0,none⟩=some (.int .i64 0)
 n1:W.cell? ⟨w.heap.size+1+1,1,none⟩=some (.int .i64 0)
 base:E.B≤w.heap.size
 old:∀ k,own E L k→k < w.heap.size
 far:P.cb < w.heap.size∧P.lb < w.heap.size
 hb:E.hb < w.heap.size
section
variable {E:Ev}{w w' w1 w2 W W2:World}{L L':RL}{h h':Hp}{d:Nat}{s s':Sv}{P:Pl}{m:Me}{fr:Rf}{op a b c n:Int}{va:Value}
theorem GB.start (H:RH E w L h d s) (F:Fq E w L P m fr) (T1 T2 T3:TypeId):GB E L P m fr h d w op a b c n va s (((w.alloc (.cells #[.int .i64 op,.int .i64 a,.int .i64 b,.int .i64 c,.int .i64 n,va] T1)).alloc (.cells #[.int .i64 0,.int .i64 0] T2)).alloc (.cells #[.int .i64 0,.int .i64 0] T3)):=by
 have hb:Below w.heap.size w (((w.alloc (.cells #[.int .i64 op,.int .i64 a,.int .i64 b,.int .i64 c,.int .i64 n,va] T1)).alloc (.cells #[.int .i64 0,.int .i64 0] T2)).alloc (.cells #[.int .i64 0,.int .i64 0] T3)):=by exact Rd.byB
 exact ⟨H.below hb,F.below hb,kpB hb,by go_simp,by go_simp,by go_simp,by go_simp,by go_simp,by go_simp,by go_simp,by go_simp,by go_simp,by go_simp,by go_simp,by have:=H.rows.base;omega,fun k hk=>(own_lo H.rows hk).2,⟨F.cbw,F.lbw⟩,H.rows.base.2⟩
theorem GB.sz (G:GB E L P m fr h d w op a b c n va s W):w.heap.size+1+1 < W.heap.size:=cell_lt G.n0
theorem GB.no (G:GB E L P m fr h d w op a b c n va s W){k:Nat}(hk:w.heap.size≤k):¬ own E L k:=fun q=>by have:=G.old k q;omega
theorem GB.next (G:GB E L P m fr h d w op a b c n va s W) (K:Kp (own E L) W W2) (H:RH E W2 L h d s'):GB E L P m fr h d w op a b c n va s' W2:=by
 have hs:=G.sz;have q0:=G.no (Nat.le_refl _);have q1:=G.no (k:=w.heap.size+1) (by omega)
 have q2:=G.no (k:=w.heap.size+1+1) (by omega)
 exact ⟨H,G.F.heap K same_own,G.K.trans K (fun _ e=>.inl e),K.cell G.i0 q0,K.cell G.i1 q0,K.cell G.i2 q0,K.cell G.i3 q0,K.cell G.i4 q0,K.cell G.r0 q1,K.cell G.r1 q1,K.frz G.f0 (by omega) q1,K.frz G.f1 (by omega) q1,K.cell G.n0 q2,K.cell G.n1 q2,G.base,G.old,G.far,G.hb⟩
theorem GB.below (G:GB E L P m fr h d w op a b c n va s W) (hb:Below W.heap.size W W2):GB E L P m fr h d w op a b c n va s W2:=G.next (kpB hb) (G.H.below hb)
theorem GB.fin (G:GB E L P m fr h d w op a b c n va s W){r:Res Vl}{k j:Int}(hs:match r with
  | .ok x h'=>s=Sv.run∧h'=h∧k=x.kind∧j=x.n
  | .thrown _ _=>False
  | .stop c h'=>s=Sv.ends c∧h'=h):RRv E L d w r (.returned (.agg #[.int .i64 k,.int .i64 j])) ((W.setCell ⟨w.heap.size+1,0,none⟩ (.int .i64 k)).setCell ⟨w.heap.size+1,1,none⟩ (.int .i64 j)):=by
 have R2:RL2 E L d w ((W.setCell ⟨w.heap.size+1,0,none⟩ (.int .i64 k)).setCell ⟨w.heap.size+1,1,none⟩ (.int .i64 j)) h s:=⟨L,kres2 G.K (by omega) _ _,same_own,G.H.res2 ⟨by have:=G.base;omega,G.no (by omega)⟩ _ _⟩
 refine ⟨k,j,rfl,?_⟩
 cases r with
 | ok x h'=>obtain ⟨rfl,rfl,rfl,rfl⟩:=hs;exact ⟨⟨rfl,rfl⟩,R2⟩
 | thrown o h'=>exact hs.elim
 | stop c h'=>obtain ⟨rfl,rfl⟩:=hs;exact R2
theorem GB.finR (G:GB E L P m fr h d w op a b c n va s W){r:Res Vl}{k j:Int}(R:RRm E L d k j W w2 r):RRv E L d w r (.returned (.agg #[.int .i64 k,.int .i64 j])) ((w2.setCell ⟨w.heap.size+1,0,none⟩ (.int .i64 k)).setCell ⟨w.heap.size+1,1,none⟩ (.int .i64 j)):=by
 have hs:=G.sz
 have key:∀ (h':Hp) (s':Sv),RL2 E L d W w2 h' s'→RL2 E L d w ((w2.setCell ⟨w.heap.size+1,0,none⟩ (.int .i64 k)).setCell ⟨w.heap.size+1,1,none⟩ (.int .i64 j)) h' s':=fun h' s' ⟨L',K2,N2,H2⟩=>by
  refine ⟨L',kres2 (G.K.trans K2 (fun _ e=>.inl e)) (by omega) _ _,fun k hk=>(N2 k hk).imp id (fun q=>by omega),H2.res2 ⟨by have:=G.base;omega,fun hk=>?_⟩ _ _⟩
  rcases N2 _ hk with q | q
  ·exact G.no (by omega) q
  ·omega
 refine ⟨k,j,rfl,?_⟩
 cases r with
 | ok x h'=>exact ⟨R.1,key _ _ R.2⟩
 | thrown o h'=>exact key _ _ R
 | stop c h'=>exact key _ _ R
theorem rd_run {k kd:Int}(e:k=kd):rdS Sv.run k kd=Sv.run:=by unfold rdS;rw [if_pos (.inr e)]
theorem rd_bad {k kd:Int}(e:¬ k=kd):rdS Sv.run k kd=Sv.ends 6:=by unfold rdS;rw [if_neg (by simp [Sv.run,e])]
theorem rd_over {c k kd:Int}:rdS (Sv.ends c) k kd=Sv.ends c:=by unfold rdS;rw [if_pos (.inl rfl)]
end
end Rhq
namespace Rhq
open Num Rd D Run Mem HierW Hpw Rhw
section
variable {E:Ev}{w w' w1 w2 W W2:World}{L L':RL}{h h':Hp}{d:Nat}{s s':Sv}{P:Pl}{m:Me}{fr:Rf}{op a b c n:Int}{va:Value}
set_option maxRecDepth 100000 in
theorem gv1 (H:RH E w L h d Sv.run) (F:Fq E w L P m fr) (h1000:fr.regs.length≤1000) (a:Int) (b:Int) (c:Int) (n:Int)  (va:Value) :
  Calls Try.prog 170 #[.pointer (some ⟨E.hb,0,none⟩),.pointer (some ⟨P.cb,0,none⟩),.agg #[.int .i64 1,.int .i64 a,.int .i64 b,.int .i64 c,.int .i64 n,va]] w (RRv E L d w (.ok ⟨1,n⟩ h)):=by
 have HH:=Lib.hid H;have HF:=Lib.hid F;have hhb:=H.rows.base.2;have hcb:=F.cbw;clear H F
 go_enter Try.func170,Try.ntmps170
 go_wp2_with fail
 refine bodyPost_ret (v:=.agg #[.int .i64 1,.int .i64 n]) (by simp [results,Try.results170,go_sem] <;> go_simp) rfl ?_
 exact ⟨1,n,rfl,⟨rfl,rfl⟩,L,kpB (by exact Rd.byB),same_own,HH.out.below (by exact Rd.byB)⟩
set_option maxRecDepth 100000 in
theorem gv2 (H:RH E w L h d Sv.run) (F:Fq E w L P m fr) (h1000:fr.regs.length≤1000) (a:Int) (b:Int) (c:Int) (n:Int)  (va:Value) :
  Calls Try.prog 170 #[.pointer (some ⟨E.hb,0,none⟩),.pointer (some ⟨P.cb,0,none⟩),.agg #[.int .i64 2,.int .i64 a,.int .i64 b,.int .i64 c,.int .i64 n,va]] w (RRv E L d w (.ok ⟨2,n⟩ h)):=by
 have HH:=Lib.hid H;have HF:=Lib.hid F;have hhb:=H.rows.base.2;have hcb:=F.cbw;clear H F
 go_enter Try.func170,Try.ntmps170
 go_wp2_with fail
 refine bodyPost_ret (v:=.agg #[.int .i64 2,.int .i64 n]) (by simp [results,Try.results170,go_sem] <;> go_simp) rfl ?_
 exact ⟨2,n,rfl,⟨rfl,rfl⟩,L,kpB (by exact Rd.byB),same_own,HH.out.below (by exact Rd.byB)⟩
set_option maxRecDepth 100000 in
theorem gv3 (H:RH E w L h d Sv.run) (F:Fq E w L P m fr) (h1000:fr.regs.length≤1000) (a:Int) (b:Int) (c:Int) (n:Int)  (va:Value) :
  Calls Try.prog 170 #[.pointer (some ⟨E.hb,0,none⟩),.pointer (some ⟨P.cb,0,none⟩),.agg #[.int .i64 3,.int .i64 a,.int .i64 b,.int .i64 c,.int .i64 n,va]] w (RRv E L d w (.ok ⟨3,(-1)⟩ h)):=by
 have HH:=Lib.hid H;have HF:=Lib.hid F;have hhb:=H.rows.base.2;have hcb:=F.cbw;clear H F
 go_enter Try.func170,Try.ntmps170
 go_wp2_with fail
 refine bodyPost_ret (v:=.agg #[.int .i64 3,.int .i64 (-1)]) (by simp [results,Try.results170,go_sem] <;> go_simp) rfl ?_
 exact ⟨3,(-1),rfl,⟨rfl,rfl⟩,L,kpB (by exact Rd.byB),same_own,HH.out.below (by exact Rd.byB)⟩
set_option maxRecDepth 100000 in
theorem gv4 (H:RH E w L h d Sv.run) (F:Fq E w L P m fr) (h1000:fr.regs.length≤1000) (a:Int) (c:Int) (n:Int) (kb:Nat) (hkb:kb < fr.regs.length) (xk xn:Int) (hkb':Hid (fr.regs.getD kb Vl.nil=⟨xk,xn⟩)) (va:Value) (r:Res Vl) (hr:r=(if xk=c then .ok ⟨xk,xn⟩ h else .stop 6 h)) :
  Calls Try.prog 170 #[.pointer (some ⟨E.hb,0,none⟩),.pointer (some ⟨P.cb,0,none⟩),.agg #[.int .i64 4,.int .i64 a,.int .i64 kb,.int .i64 c,.int .i64 n,va]] w (RRv E L d w r):=by
 replace hr:=Lib.hid hr;have HH:=Lib.hid H;have HF:=Lib.hid F;have hhb:=H.rows.base.2;have hcb:=F.cbw;clear H F
 go_enter Try.func170,Try.ntmps170
 go_wp2_with fail
 generalize hWW:World.alloc _ _=W
 have G:=Lib.hid (show GB E L P m fr h d w 4 a kb c n va Sv.run W from by rw [← hWW];exact GB.start HH.out HF.out _ _ _)
 clear hWW;refine (readq G.out.H rfl G.out.F kb hkb h1000 ⟨xk,xn⟩ hkb' c).mono ?_;rintro e w1 ⟨rfl,H1,K1⟩;replace G:=Lib.hid (G.out.next K1 H1);obtain ⟨_,_,_,i0,i1,i2,i3,i4,r0,r1,f0,f1,n0,n1,_,_,_,_⟩:=id G.out;have sz:=G.out.sz;have hh:=G.out.hb;have s1:=Nat.lt_of_succ_lt sz;have s0:=Nat.lt_of_succ_lt s1;have t1:=Nat.lt_add_one_of_lt s1;have t0:=Nat.lt_add_one_of_lt s0;have tz:=Nat.lt_add_one_of_lt sz;have hW:=G.out.H.rows.base.2;clear H1 K1
 go_wp2_with fail
 refine bodyPost_ret (v:=.agg #[.int .i64 xk,.int .i64 xn]) (by simp [results,Try.results170,go_sem] <;> go_simp) rfl ?_
 exact GB.fin G.out (by
  rw [hr.out]
  by_cases q:xk=c
  ·rw [if_pos q];exact ⟨rd_run q,rfl,rfl,rfl⟩
  ·rw [if_neg q];exact ⟨rd_bad q,rfl⟩)
set_option maxRecDepth 100000 in
theorem gv7 (H:RH E w L h d Sv.run) (F:Fq E w L P m fr) (h1000:fr.regs.length≤1000) (a:Int) (c:Int) (n:Int) (kb:Nat) (hkb:kb < fr.regs.length) (xk xn:Int) (hkb':Hid (fr.regs.getD kb Vl.nil=⟨xk,xn⟩)) (va:Value) (r:Res Vl) (hr:r=(if xk=1 then .ok ⟨2,xn⟩ h else .stop 6 h)) :
  Calls Try.prog 170 #[.pointer (some ⟨E.hb,0,none⟩),.pointer (some ⟨P.cb,0,none⟩),.agg #[.int .i64 7,.int .i64 a,.int .i64 kb,.int .i64 c,.int .i64 n,va]] w (RRv E L d w r):=by
 replace hr:=Lib.hid hr;have HH:=Lib.hid H;have HF:=Lib.hid F;have hhb:=H.rows.base.2;have hcb:=F.cbw;clear H F
 go_enter Try.func170,Try.ntmps170
 go_wp2_with fail
 generalize hWW:World.alloc _ _=W
 have G:=Lib.hid (show GB E L P m fr h d w 7 a kb c n va Sv.run W from by rw [← hWW];exact GB.start HH.out HF.out _ _ _)
 clear hWW;refine (readq G.out.H rfl G.out.F kb hkb h1000 ⟨xk,xn⟩ hkb' 1).mono ?_;rintro e w1 ⟨rfl,H1,K1⟩;replace G:=Lib.hid (G.out.next K1 H1);obtain ⟨_,_,_,i0,i1,i2,i3,i4,r0,r1,f0,f1,n0,n1,_,_,_,_⟩:=id G.out;have sz:=G.out.sz;have hh:=G.out.hb;have s1:=Nat.lt_of_succ_lt sz;have s0:=Nat.lt_of_succ_lt s1;have t1:=Nat.lt_add_one_of_lt s1;have t0:=Nat.lt_add_one_of_lt s0;have tz:=Nat.lt_add_one_of_lt sz;have hW:=G.out.H.rows.base.2;clear H1 K1
 go_wp2_with fail
 refine bodyPost_ret (v:=.agg #[.int .i64 2,.int .i64 xn]) (by simp [results,Try.results170,go_sem] <;> go_simp) rfl ?_
 refine rrv_below (GB.fin G.out (by
  rw [hr.out]
  by_cases q:xk=1
  ·rw [if_pos q];exact ⟨rd_run q,rfl,rfl,rfl⟩
  ·rw [if_neg q];exact ⟨rd_bad q,rfl⟩)) (by exact Rd.byB)
set_option maxRecDepth 100000 in
theorem gv8 (H:RH E w L h d Sv.run) (F:Fq E w L P m fr) (h1000:fr.regs.length≤1000) (a:Int) (c:Int) (n:Int) (kb:Nat) (hkb:kb < fr.regs.length) (xk xn:Int) (hkb':Hid (fr.regs.getD kb Vl.nil=⟨xk,xn⟩)) (va:Value) (r:Res Vl) (hr:r=(if xk=2 then .ok ⟨1,wrap32 xn⟩ h else .stop 6 h)) :
  Calls Try.prog 170 #[.pointer (some ⟨E.hb,0,none⟩),.pointer (some ⟨P.cb,0,none⟩),.agg #[.int .i64 8,.int .i64 a,.int .i64 kb,.int .i64 c,.int .i64 n,va]] w (RRv E L d w r):=by
 replace hr:=Lib.hid hr;have HH:=Lib.hid H;have HF:=Lib.hid F;have hhb:=H.rows.base.2;have hcb:=F.cbw;clear H F
 go_enter Try.func170,Try.ntmps170
 go_wp2_with fail
 generalize hWW:World.alloc _ _=W
 have G:=Lib.hid (show GB E L P m fr h d w 8 a kb c n va Sv.run W from by rw [← hWW];exact GB.start HH.out HF.out _ _ _)
 clear hWW;refine (readq G.out.H rfl G.out.F kb hkb h1000 ⟨xk,xn⟩ hkb' 2).mono ?_;rintro e w1 ⟨rfl,H1,K1⟩;replace G:=Lib.hid (G.out.next K1 H1);obtain ⟨_,_,_,i0,i1,i2,i3,i4,r0,r1,f0,f1,n0,n1,_,_,_,_⟩:=id G.out;have sz:=G.out.sz;have hh:=G.out.hb;have s1:=Nat.lt_of_succ_lt sz;have s0:=Nat.lt_of_succ_lt s1;have t1:=Nat.lt_add_one_of_lt s1;have t0:=Nat.lt_add_one_of_lt s0;have tz:=Nat.lt_add_one_of_lt sz;have hW:=G.out.H.rows.base.2;clear H1 K1
 go_wp2_with (go_at_call 99;refine (NumW.rnarrow xn _).mono ?_;rintro e w2 ⟨rfl,rfl⟩)
 refine bodyPost_ret (v:=.agg #[.int .i64 1,.int .i64 (wrap32 xn)]) (by simp [results,Try.results170,go_sem] <;> go_simp) rfl ?_
 refine rrv_below (GB.fin G.out (by
  rw [hr.out]
  by_cases q:xk=2
  ·rw [if_pos q];exact ⟨rd_run q,rfl,rfl,rfl⟩
  ·rw [if_neg q];exact ⟨rd_bad q,rfl⟩)) (by exact Rd.byB)
end
end Rhq
namespace Rhq
open Num Rd D Run Mem HierW Hpw Rhw
section
variable {E:Ev}{w w' w1 w2 W W2:World}{L L':RL}{h h':Hp}{d:Nat}{s s':Sv}{P:Pl}{m:Me}{fr:Rf}{op a b c n:Int}{va:Value}
set_option maxRecDepth 100000 in
theorem gv5 (H:RH E w L h d Sv.run) (F:Fq E w L P m fr) (h1000:fr.regs.length≤1000) (a:Int) (n:Int) (kb:Nat) (hkb:kb < fr.regs.length) (xk xn:Int) (hkb':Hid (fr.regs.getD kb Vl.nil=⟨xk,xn⟩)) (kc:Nat) (hkc:kc < fr.regs.length) (yk yn:Int) (hkc':Hid (fr.regs.getD kc Vl.nil=⟨yk,yn⟩)) (hm:Hier.may E.f.classes=true) (hx:Ok xn) (hy:Ok yn) (va:Value) :
  Calls Try.prog 170 #[.pointer (some ⟨E.hb,0,none⟩),.pointer (some ⟨P.cb,0,none⟩),.agg #[.int .i64 5,.int .i64 a,.int .i64 kb,.int .i64 kc,.int .i64 n,va]] w (RRv E L d w (Run.reckon E.f.classes ⟨xk,xn⟩ ⟨yk,yn⟩ 1 n h)):=by
 have HH:=Lib.hid H;have HF:=Lib.hid F;have hhb:=H.rows.base.2;have hcb:=F.cbw;clear H F
 go_enter Try.func170,Try.ntmps170
 go_wp2_with fail
 generalize hWW:World.alloc _ _=W
 have G:=Lib.hid (show GB E L P m fr h d w 5 a kb kc n va Sv.run W from by rw [← hWW];exact GB.start HH.out HF.out _ _ _)
 clear hWW;obtain ⟨_,_,_,i0,i1,i2,i3,i4,r0,r1,f0,f1,n0,n1,_,_,_,_⟩:=id G.out;have sz:=G.out.sz;have hh:=G.out.hb;have s1:=Nat.lt_of_succ_lt sz;have s0:=Nat.lt_of_succ_lt s1;have t1:=Nat.lt_add_one_of_lt s1;have t0:=Nat.lt_add_one_of_lt s0;have tz:=Nat.lt_add_one_of_lt sz;have hW:=G.out.H.rows.base.2;have c8:=G.out.F.c8;have hcW:=G.out.F.cbw;have hlW:=G.out.F.lbw;obtain ⟨zb0,zb1,_,_⟩:=Blk.getV G.out.F.loc hkb;obtain ⟨zc0,zc1,_,_⟩:=Blk.getV G.out.F.loc hkc;rw [hkb'.out] at zb0 zb1;rw [hkc'.out] at zc0 zc1;simp only at zb0 zb1 zc0 zc1;have hbi:(kb:Int) < fr.regs.length:=by omega
 have hci:(kc:Int) < fr.regs.length:=by omega
 have ha1:=G.out.F.far.1;have ha2:=G.out.F.far.2;refine Drawn.hd (fun w'=>w'.cell? ⟨P.cb,8,none⟩=some (.slice (some ⟨P.lb,0,none⟩) fr.regs.length fr.regs.length)∧w'.cell? ⟨w.heap.size,2,none⟩=some (.int .i64 kb)∧w'.cell? ⟨w.heap.size,3,none⟩=some (.int .i64 kc)∧w'.cell? ⟨w.heap.size,4,none⟩=some (.int .i64 n)∧w'.cell? ⟨P.lb,kb*2,none⟩=some (.int .i64 xk)∧w'.cell? ⟨P.lb,kb*2+1,none⟩=some (.int .i64 xn)∧w'.cell? ⟨P.lb,kc*2,none⟩=some (.int .i64 yk)∧w'.cell? ⟨P.lb,kc*2+1,none⟩=some (.int .i64 yn)) (h:=fun hHeld=>?_);refine dT 0 46 ?_;refine dT 1 47 ?_;refine dT 2 48 ?_;refine dT 3 49 ?_;refine dT 4 50 ?_;refine dT 5 51 ?_;refine dT 6 52 ?_;refine dT 7 53 ?_;refine dT 8 54 ?_;refine dT 9 55 ?_;refine dT 10 56 ?_;refine dT 11 57 ?_;refine dT 12 58 ?_;refine dT 13 59 ?_;refine dT 14 60 ?_;refine dT 15 61 ?_;refine dT 16 62 ?_;refine dT 17 63 ?_;refine dT 18 64 ?_;refine dT 19 65 ?_;refine dT 20 66 ?_;refine dT 21 67 ?_;refine Drawn.cl 22 (fun K hK=>?_);go_simp;have G2:=Lib.hid (G.out.below (W2:=W.drew) (by exact Rd.byB))
 refine (reckonR G2.out.H hm ⟨xk,xn⟩ ⟨yk,yn⟩ hx hy 1 n (by simp)).mono ?_
 rintro e w3 hR;obtain ⟨rk,rn,rfl,R⟩:=rrv_m hR;have K3:=rrm_kp R;have c8':=K3.cell c8 ha1;have i2':=K3.cell i2 (G.out.no (Nat.le_refl _));have i3':=K3.cell i3 (G.out.no (Nat.le_refl _));have i4':=K3.cell i4 (G.out.no (Nat.le_refl _));have zb0':=K3.cell zb0 ha2;have zb1':=K3.cell zb1 ha2;have zc0':=K3.cell zc0 ha2;have zc1':=K3.cell zc1 ha2;have r0':=K3.cell r0 (G.out.no (by omega))
 have r1':=K3.cell r1 (G.out.no (by omega))
 have f0':=K3.frz f0 (by first | omega | (simp;omega)) (G.out.no (by omega))
 have f1':=K3.frz f1 (by first | omega | (simp;omega)) (G.out.no (by omega))
 have R2:=Lib.hid R;have ls1:=cell_lt r0';clear hR R K3
 go_wp2_with fail
 refine Drawn.bk hK (hS:=by (try dsimp only);exact ⟨c8',i2',i3',i4',zb0',zb1',zc0',zc1'⟩) (h:=fun hHeld=>?_)
 clear hK K;refine Drawn.cl 23 (fun K hK=>?_);go_simp;refine Drawn.bk hK (h:=fun hHeld=>?_);clear hK K;refine dN ?_
 go_wp2_with fail
 refine bodyPost_ret (v:=.agg #[.int .i64 rk,.int .i64 rn]) (by simp [results,Try.results170,go_sem] <;> go_simp) rfl ?_
 exact G2.out.finR R2.out
set_option maxRecDepth 100000 in
theorem gv6 (H:RH E w L h d Sv.run) (F:Fq E w L P m fr) (h1000:fr.regs.length≤1000) (a:Int) (n:Int) (kb:Nat) (hkb:kb < fr.regs.length) (xk xn:Int) (hkb':Hid (fr.regs.getD kb Vl.nil=⟨xk,xn⟩)) (kc:Nat) (hkc:kc < fr.regs.length) (yk yn:Int) (hkc':Hid (fr.regs.getD kc Vl.nil=⟨yk,yn⟩)) (hm:Hier.may E.f.classes=true) (hx:Ok xn) (hy:Ok yn) (va:Value) :
  Calls Try.prog 170 #[.pointer (some ⟨E.hb,0,none⟩),.pointer (some ⟨P.cb,0,none⟩),.agg #[.int .i64 6,.int .i64 a,.int .i64 kb,.int .i64 kc,.int .i64 n,va]] w (RRv E L d w (Run.reckon E.f.classes ⟨xk,xn⟩ ⟨yk,yn⟩ 2 n h)):=by
 have HH:=Lib.hid H;have HF:=Lib.hid F;have hhb:=H.rows.base.2;have hcb:=F.cbw;clear H F
 go_enter Try.func170,Try.ntmps170
 go_wp2_with fail
 generalize hWW:World.alloc _ _=W
 have G:=Lib.hid (show GB E L P m fr h d w 6 a kb kc n va Sv.run W from by rw [← hWW];exact GB.start HH.out HF.out _ _ _)
 clear hWW;obtain ⟨_,_,_,i0,i1,i2,i3,i4,r0,r1,f0,f1,n0,n1,_,_,_,_⟩:=id G.out;have sz:=G.out.sz;have hh:=G.out.hb;have s1:=Nat.lt_of_succ_lt sz;have s0:=Nat.lt_of_succ_lt s1;have t1:=Nat.lt_add_one_of_lt s1;have t0:=Nat.lt_add_one_of_lt s0;have tz:=Nat.lt_add_one_of_lt sz;have hW:=G.out.H.rows.base.2;have c8:=G.out.F.c8;have hcW:=G.out.F.cbw;have hlW:=G.out.F.lbw;obtain ⟨zb0,zb1,_,_⟩:=Blk.getV G.out.F.loc hkb;obtain ⟨zc0,zc1,_,_⟩:=Blk.getV G.out.F.loc hkc;rw [hkb'.out] at zb0 zb1;rw [hkc'.out] at zc0 zc1;simp only at zb0 zb1 zc0 zc1;have hbi:(kb:Int) < fr.regs.length:=by omega
 have hci:(kc:Int) < fr.regs.length:=by omega
 have ha1:=G.out.F.far.1;have ha2:=G.out.F.far.2;refine Drawn.hd (fun w'=>w'.cell? ⟨P.cb,8,none⟩=some (.slice (some ⟨P.lb,0,none⟩) fr.regs.length fr.regs.length)∧w'.cell? ⟨w.heap.size,2,none⟩=some (.int .i64 kb)∧w'.cell? ⟨w.heap.size,3,none⟩=some (.int .i64 kc)∧w'.cell? ⟨w.heap.size,4,none⟩=some (.int .i64 n)∧w'.cell? ⟨P.lb,kb*2,none⟩=some (.int .i64 xk)∧w'.cell? ⟨P.lb,kb*2+1,none⟩=some (.int .i64 xn)∧w'.cell? ⟨P.lb,kc*2,none⟩=some (.int .i64 yk)∧w'.cell? ⟨P.lb,kc*2+1,none⟩=some (.int .i64 yn)) (h:=fun hHeld=>?_);refine dT 0 46 ?_;refine dT 1 47 ?_;refine dT 2 48 ?_;refine dT 3 49 ?_;refine dT 4 50 ?_;refine dT 5 51 ?_;refine dT 6 52 ?_;refine dT 7 53 ?_;refine dT 8 54 ?_;refine dT 9 55 ?_;refine dT 10 56 ?_;refine dT 11 57 ?_;refine dT 12 58 ?_;refine dT 13 59 ?_;refine dT 14 60 ?_;refine dT 15 61 ?_;refine dT 16 62 ?_;refine dT 17 63 ?_;refine dT 18 64 ?_;refine dT 19 65 ?_;refine dT 20 66 ?_;refine dT 21 67 ?_;refine Drawn.cl 22 (fun K hK=>?_);go_simp;have G2:=Lib.hid (G.out.below (W2:=W.drew) (by exact Rd.byB))
 refine (reckonR G2.out.H hm ⟨xk,xn⟩ ⟨yk,yn⟩ hx hy 2 n (by simp)).mono ?_
 rintro e w3 hR;obtain ⟨rk,rn,rfl,R⟩:=rrv_m hR;have K3:=rrm_kp R;have c8':=K3.cell c8 ha1;have i2':=K3.cell i2 (G.out.no (Nat.le_refl _));have i3':=K3.cell i3 (G.out.no (Nat.le_refl _));have i4':=K3.cell i4 (G.out.no (Nat.le_refl _));have zb0':=K3.cell zb0 ha2;have zb1':=K3.cell zb1 ha2;have zc0':=K3.cell zc0 ha2;have zc1':=K3.cell zc1 ha2;have r0':=K3.cell r0 (G.out.no (by omega))
 have r1':=K3.cell r1 (G.out.no (by omega))
 have f0':=K3.frz f0 (by first | omega | (simp;omega)) (G.out.no (by omega))
 have f1':=K3.frz f1 (by first | omega | (simp;omega)) (G.out.no (by omega))
 have R2:=Lib.hid R;have ls1:=cell_lt r0';clear hR R K3
 go_wp2_with fail
 refine Drawn.bk hK (hS:=by (try dsimp only);exact ⟨c8',i2',i3',i4',zb0',zb1',zc0',zc1'⟩) (h:=fun hHeld=>?_)
 clear hK K;refine Drawn.cl 23 (fun K hK=>?_);go_simp;refine Drawn.bk hK (h:=fun hHeld=>?_);clear hK K;refine dN ?_
 go_wp2_with fail
 refine bodyPost_ret (v:=.agg #[.int .i64 rk,.int .i64 rn]) (by simp [results,Try.results170,go_sem] <;> go_simp) rfl ?_
 exact G2.out.finR R2.out
set_option maxRecDepth 100000 in
theorem gv9 (H:RH E w L h d Sv.run) (F:Fq E w L P m fr) (h1000:fr.regs.length≤1000) (a:Int) (n:Int) (kb:Nat) (hkb:kb < fr.regs.length) (xk xn:Int) (hkb':Hid (fr.regs.getD kb Vl.nil=⟨xk,xn⟩)) (kc:Nat) (hkc:kc < fr.regs.length) (yk yn:Int) (hkc':Hid (fr.regs.getD kc Vl.nil=⟨yk,yn⟩)) (va:Value) (r:Res Vl) (hr:r=if xk=2 then (if yk=2 then .ok ⟨1,Num.cmp xn yn⟩ h else .stop 6 h) else .stop 6 h) :
  Calls Try.prog 170 #[.pointer (some ⟨E.hb,0,none⟩),.pointer (some ⟨P.cb,0,none⟩),.agg #[.int .i64 9,.int .i64 a,.int .i64 kb,.int .i64 kc,.int .i64 n,va]] w (RRv E L d w r):=by
 replace hr:=Lib.hid hr;have HH:=Lib.hid H;have HF:=Lib.hid F;have hhb:=H.rows.base.2;have hcb:=F.cbw;clear H F
 go_enter Try.func170,Try.ntmps170
 go_wp2_with fail
 generalize hWW:World.alloc _ _=W
 have G:=Lib.hid (show GB E L P m fr h d w 9 a kb kc n va Sv.run W from by rw [← hWW];exact GB.start HH.out HF.out _ _ _)
 clear hWW;refine (readq G.out.H rfl G.out.F kb hkb h1000 ⟨xk,xn⟩ hkb' 2).mono ?_;rintro e w1 ⟨rfl,H1,K1⟩;replace G:=Lib.hid (G.out.next K1 H1);obtain ⟨_,_,_,i0,i1,i2,i3,i4,r0,r1,f0,f1,n0,n1,_,_,_,_⟩:=id G.out;have sz:=G.out.sz;have hh:=G.out.hb;have s1:=Nat.lt_of_succ_lt sz;have s0:=Nat.lt_of_succ_lt s1;have t1:=Nat.lt_add_one_of_lt s1;have t0:=Nat.lt_add_one_of_lt s0;have tz:=Nat.lt_add_one_of_lt sz;have hW:=G.out.H.rows.base.2;clear H1 K1
 go_wp2_with fail
 generalize hW2:World.alloc w1 _=W2
 replace hW2:=Lib.hid hW2;have y0:W2.cell? ⟨w1.heap.size,0,none⟩=some (.int .i64 xk):=by rw [← hW2.out];go_simp
 have y1:W2.cell? ⟨w1.heap.size,1,none⟩=some (.int .i64 xn):=by rw [← hW2.out];go_simp
 have G2:=Lib.hid (G.out.below (W2:=W2) (by rw [← hW2.out];exact Rd.byB))
 clear hW2 i0 i1 i2 i3 i4 r0 r1 f0 f1 n0 n1 sz hh s1 s0 t1 t0 tz hW;refine (readq G2.out.H (by unfold rdS;split <;> rfl) G2.out.F kc hkc h1000 ⟨yk,yn⟩ hkc' 2).mono ?_
 rintro e w2 ⟨rfl,H2,K2⟩;have ly:=G.out.sz;have y0':=K2.cell y0 (G.out.no (by omega))
 have y1':=K2.cell y1 (G.out.no (by omega))
 have ly2:=cell_lt y0';have ly3:=Nat.lt_add_one_of_lt ly2;have G3:=Lib.hid (G2.out.next K2 H2);clear H2 K2 y0 y1;obtain ⟨_,_,_,i0,i1,i2,i3,i4,r0,r1,f0,f1,n0,n1,_,_,_,_⟩:=id G3.out;have sz:=G3.out.sz;have hh:=G3.out.hb;have s1:=Nat.lt_of_succ_lt sz;have s0:=Nat.lt_of_succ_lt s1;have t1:=Nat.lt_add_one_of_lt s1;have t0:=Nat.lt_add_one_of_lt s0;have tz:=Nat.lt_add_one_of_lt sz;have hW:=G3.out.H.rows.base.2
 go_wp2_with (go_at_call 201;refine (NumW.rcmp xn yn _).mono ?_;rintro e w3 ⟨rfl,rfl⟩)
 refine bodyPost_ret (v:=.agg #[.int .i64 1,.int .i64 (Num.cmp xn yn)]) (by simp [results,Try.results170,go_sem] <;> go_simp) rfl ?_
 refine rrv_below (GB.fin G3.out (by
  rw [hr.out]
  by_cases q:xk=2
  ·rw [if_pos q,rd_run q]
   by_cases q2:yk=2
   ·rw [if_pos q2];exact ⟨rd_run q2,rfl,rfl,rfl⟩
   ·rw [if_neg q2];exact ⟨rd_bad q2,rfl⟩
  ·rw [if_neg q,rd_bad q];exact ⟨rd_over,rfl⟩)) (by exact Rd.byB)
set_option maxRecDepth 100000 in
theorem gv13 (H:RH E w L h d Sv.run) (F:Fq E w L P m fr) (h1000:fr.regs.length≤1000) (a:Int) (b:Int) (c:Int) (n:Int) (hm:Hier.may E.f.classes=true) (va:Value) :
  Calls Try.prog 170 #[.pointer (some ⟨E.hb,0,none⟩),.pointer (some ⟨P.cb,0,none⟩),.agg #[.int .i64 13,.int .i64 a,.int .i64 b,.int .i64 c,.int .i64 n,va]] w (RRv E L d w (Run.new E.f.classes b h)):=by
 have HH:=Lib.hid H;have HF:=Lib.hid F;have hhb:=H.rows.base.2;have hcb:=F.cbw;clear H F
 go_enter Try.func170,Try.ntmps170
 go_wp2_with fail
 generalize hWW:World.alloc _ _=W
 have G:=Lib.hid (show GB E L P m fr h d w 13 a b c n va Sv.run W from by rw [← hWW];exact GB.start HH.out HF.out _ _ _)
 clear hWW;obtain ⟨_,_,_,i0,i1,i2,i3,i4,r0,r1,f0,f1,n0,n1,_,_,_,_⟩:=id G.out;have sz:=G.out.sz;have hh:=G.out.hb;have s1:=Nat.lt_of_succ_lt sz;have s0:=Nat.lt_of_succ_lt s1;have t1:=Nat.lt_add_one_of_lt s1;have t0:=Nat.lt_add_one_of_lt s0;have tz:=Nat.lt_add_one_of_lt sz;have hW:=G.out.H.rows.base.2;refine Drawn.hd (fun w'=>w'.cell? ⟨w.heap.size,2,none⟩=some (.int .i64 b)) (h:=fun hHeld=>?_);refine dT 0 110 ?_;refine dT 1 111 ?_;refine dT 2 112 ?_;refine dT 3 113 ?_;refine dT 4 114 ?_;refine Drawn.cl 5 (fun K hK=>?_);go_simp;have G2:=Lib.hid (G.out.below (W2:=W.drew) (by exact Rd.byB))
 refine (newR G2.out.H hm b).mono ?_;rintro e w3 hR;obtain ⟨rk,rn,rfl,R⟩:=rrv_m hR;have K3:=rrm_kp R;have i2':=K3.cell i2 (G.out.no (Nat.le_refl _));have r0':=K3.cell r0 (G.out.no (by omega))
 have r1':=K3.cell r1 (G.out.no (by omega))
 have f0':=K3.frz f0 (by first | omega | (simp;omega)) (G.out.no (by omega))
 have f1':=K3.frz f1 (by first | omega | (simp;omega)) (G.out.no (by omega))
 have R2:=Lib.hid R;have ls1:=cell_lt r0';clear hR R K3
 go_wp2_with fail
 refine Drawn.bk hK (hS:=by (try dsimp only);exact i2') (h:=fun hHeld=>?_)
 clear hK K;refine Drawn.cl 6 (fun K hK=>?_);go_simp;refine Drawn.bk hK (h:=fun hHeld=>?_);clear hK K;refine dN ?_
 go_wp2_with fail
 refine bodyPost_ret (v:=.agg #[.int .i64 rk,.int .i64 rn]) (by simp [results,Try.results170,go_sem] <;> go_simp) rfl ?_
 exact G2.out.finR R2.out
end
end Rhq
namespace Rhq
open Num Rd D Run Mem HierW Hpw Rhw
section
variable {E:Ev}{w w' w1 w2 W W2:World}{L L':RL}{h h':Hp}{d:Nat}{s s':Sv}{P:Pl}{m:Me}{fr:Rf}{op a b c n:Int}{va:Value}
set_option maxRecDepth 100000 in
theorem gv14 (H:RH E w L h d Sv.run) (F:Fq E w L P m fr) (h1000:fr.regs.length≤1000) (a:Int) (c:Int) (n:Int) (kb:Nat) (hkb:kb < fr.regs.length) (xk xn:Int) (hkb':Hid (fr.regs.getD kb Vl.nil=⟨xk,xn⟩)) (hm:Hier.may E.f.classes=true) (HO:HpOk E.f.classes E.input E.fuel h) (hx:VlOk h.objs.length ⟨xk,xn⟩) (va:Value) :
  Calls Try.prog 170 #[.pointer (some ⟨E.hb,0,none⟩),.pointer (some ⟨P.cb,0,none⟩),.agg #[.int .i64 14,.int .i64 a,.int .i64 kb,.int .i64 c,.int .i64 n,va]] w (RRv E L d w (Run.get E.f.classes ⟨xk,xn⟩ c n h)):=by
 have HH:=Lib.hid H;have HF:=Lib.hid F;have hhb:=H.rows.base.2;have hcb:=F.cbw;clear H F
 go_enter Try.func170,Try.ntmps170
 go_wp2_with fail
 generalize hWW:World.alloc _ _=W
 have G:=Lib.hid (show GB E L P m fr h d w 14 a kb c n va Sv.run W from by rw [← hWW];exact GB.start HH.out HF.out _ _ _)
 clear hWW;refine (readq G.out.H rfl G.out.F kb hkb h1000 ⟨xk,xn⟩ hkb' 3).mono ?_;rintro e w1 ⟨rfl,H1,K1⟩
 by_cases qk:xk=3
 ·subst qk;rw [rd_run rfl] at H1;have c12:=H1.c12;simp only [Sv.run] at c12;replace G:=Lib.hid (G.out.next K1 H1);obtain ⟨_,_,_,i0,i1,i2,i3,i4,r0,r1,f0,f1,n0,n1,_,_,_,_⟩:=id G.out;have sz:=G.out.sz;have hh:=G.out.hb;have s1:=Nat.lt_of_succ_lt sz;have s0:=Nat.lt_of_succ_lt s1;have t1:=Nat.lt_add_one_of_lt s1;have t0:=Nat.lt_add_one_of_lt s0;have tz:=Nat.lt_add_one_of_lt sz;have hW:=G.out.H.rows.base.2;clear H1 K1
  go_wp2_with fail
  generalize hW2:World.alloc w1 _=W2
  replace hW2:=Lib.hid hW2;have y0:W2.cell? ⟨w1.heap.size,0,none⟩=some (.int .i64 3):=by rw [← hW2.out];go_simp
  have y1:W2.cell? ⟨w1.heap.size,1,none⟩=some (.int .i64 xn):=by rw [← hW2.out];go_simp
  have ly:=cell_lt y0;have G2:=Lib.hid (G.out.below (W2:=W2) (by rw [← hW2.out];exact Rd.byB))
  clear hW2 i0 i1 i2 i3 i4 r0 r1 f0 f1 n0 n1 c12 s1 s0 t1 t0 tz hW;obtain ⟨_,_,_,i0,i1,i2,i3,i4,r0,r1,f0,f1,n0,n1,_,_,_,_⟩:=id G2.out;have sz2:=G2.out.sz;have hh2:=G2.out.hb;have s1:=Nat.lt_of_succ_lt sz2;have s0:=Nat.lt_of_succ_lt s1;have t1:=Nat.lt_add_one_of_lt s1;have t0:=Nat.lt_add_one_of_lt s0;have tz:=Nat.lt_add_one_of_lt sz2;have hW:=G2.out.H.rows.base.2;refine Drawn.hd (fun w'=>w'.cell? ⟨w1.heap.size,0,none⟩=some (.int .i64 3)∧w'.cell? ⟨w1.heap.size,1,none⟩=some (.int .i64 xn)∧w'.cell? ⟨w.heap.size,3,none⟩=some (.int .i64 c)∧w'.cell? ⟨w.heap.size,4,none⟩=some (.int .i64 n)) (h:=fun hHeld=>?_);refine dT 0 129 ?_;refine dT 1 130 ?_;refine dT 2 131 ?_;refine dT 3 132 ?_;refine dT 4 133 ?_;refine dT 5 134 ?_;refine dT 6 135 ?_;refine dT 7 136 ?_;refine Drawn.cl 8 (fun K hK=>?_);go_simp;have G3:=Lib.hid (G2.out.below (W2:=W2.drew) (by exact Rd.byB))
  refine (getR G3.out.H hm HO ⟨3,xn⟩ hx c n).mono ?_;rintro e w3 hR;obtain ⟨rk,rn,rfl,R⟩:=rrv_m hR;have K3:=rrm_kp R;have y0':=K3.cell y0 (G.out.no (by omega))
  have y1':=K3.cell y1 (G.out.no (by omega))
  have i3':=K3.cell i3 (G.out.no (Nat.le_refl _));have i4':=K3.cell i4 (G.out.no (Nat.le_refl _));have r0':=K3.cell r0 (G.out.no (by omega))
  have r1':=K3.cell r1 (G.out.no (by omega))
  have f0':=K3.frz f0 (by first | omega | (simp;omega)) (G.out.no (by omega))
  have f1':=K3.frz f1 (by first | omega | (simp;omega)) (G.out.no (by omega))
  have R2:=Lib.hid R;have ls1:=cell_lt r0';have ls2:=cell_lt y0';clear hR R K3
  go_wp2_with fail
  refine Drawn.bk hK (hS:=by (try dsimp only);exact ⟨y0',y1',i3',i4'⟩) (h:=fun hHeld=>?_)
  clear hK K;refine Drawn.cl 9 (fun K hK=>?_);go_simp;refine Drawn.bk hK (h:=fun hHeld=>?_);clear hK K;refine dN ?_
  go_wp2_with fail
  refine bodyPost_ret (v:=.agg #[.int .i64 rk,.int .i64 rn]) (by simp [results,Try.results170,go_sem] <;> go_simp) rfl ?_
  exact G3.out.finR R2.out
 ·rw [rd_bad qk] at H1;have c12:=H1.c12;simp only [Sv.ends] at c12;replace G:=Lib.hid (G.out.next K1 H1);obtain ⟨_,_,_,i0,i1,i2,i3,i4,r0,r1,f0,f1,n0,n1,_,_,_,_⟩:=id G.out;have sz:=G.out.sz;have hh:=G.out.hb;have s1:=Nat.lt_of_succ_lt sz;have s0:=Nat.lt_of_succ_lt s1;have t1:=Nat.lt_add_one_of_lt s1;have t0:=Nat.lt_add_one_of_lt s0;have tz:=Nat.lt_add_one_of_lt sz;have hW:=G.out.H.rows.base.2;clear H1 K1
  go_wp2_with fail
  refine bodyPost_ret (v:=.agg #[.int .i64 0,.int .i64 0]) (by simp [results,Try.results170,go_sem] <;> go_simp) rfl ?_
  refine rrv_below (GB.fin G.out (by
   rw [show Run.get E.f.classes ⟨xk,xn⟩ c n h=.stop 6 h from by unfold Run.get ofT;rw [if_pos (by simp [qk])]]
   exact ⟨rfl,rfl⟩)) (by exact Rd.byB)
set_option maxRecDepth 100000 in
theorem gv17 (H:RH E w L h d Sv.run) (F:Fq E w L P m fr) (h1000:fr.regs.length≤1000) (a:Int) (c:Int) (n:Int) (kb:Nat) (hkb:kb < fr.regs.length) (xk xn:Int) (hkb':Hid (fr.regs.getD kb Vl.nil=⟨xk,xn⟩)) (hm:Hier.may E.f.classes=true) (hx:VlOk h.objs.length ⟨xk,xn⟩) (va:Value) :
  Calls Try.prog 170 #[.pointer (some ⟨E.hb,0,none⟩),.pointer (some ⟨P.cb,0,none⟩),.agg #[.int .i64 17,.int .i64 a,.int .i64 kb,.int .i64 c,.int .i64 n,va]] w (RRv E L d w (Run.isV E.f.classes ⟨xk,xn⟩ c h)):=by
 have HH:=Lib.hid H;have HF:=Lib.hid F;have hhb:=H.rows.base.2;have hcb:=F.cbw;clear H F
 go_enter Try.func170,Try.ntmps170
 go_wp2_with fail
 generalize hWW:World.alloc _ _=W
 have G:=Lib.hid (show GB E L P m fr h d w 17 a kb c n va Sv.run W from by rw [← hWW];exact GB.start HH.out HF.out _ _ _)
 clear hWW;refine (readq G.out.H rfl G.out.F kb hkb h1000 ⟨xk,xn⟩ hkb' 3).mono ?_;rintro e w1 ⟨rfl,H1,K1⟩
 by_cases qk:xk=3
 ·subst qk;rw [rd_run rfl] at H1;have c12:=H1.c12;simp only [Sv.run] at c12;replace G:=Lib.hid (G.out.next K1 H1);obtain ⟨_,_,_,i0,i1,i2,i3,i4,r0,r1,f0,f1,n0,n1,_,_,_,_⟩:=id G.out;have sz:=G.out.sz;have hh:=G.out.hb;have s1:=Nat.lt_of_succ_lt sz;have s0:=Nat.lt_of_succ_lt s1;have t1:=Nat.lt_add_one_of_lt s1;have t0:=Nat.lt_add_one_of_lt s0;have tz:=Nat.lt_add_one_of_lt sz;have hW:=G.out.H.rows.base.2;clear H1 K1
  go_wp2_with fail
  generalize hW2:World.alloc w1 _=W2
  replace hW2:=Lib.hid hW2;have y0:W2.cell? ⟨w1.heap.size,0,none⟩=some (.int .i64 3):=by rw [← hW2.out];go_simp
  have y1:W2.cell? ⟨w1.heap.size,1,none⟩=some (.int .i64 xn):=by rw [← hW2.out];go_simp
  have ly:=cell_lt y0;have G2:=Lib.hid (G.out.below (W2:=W2) (by rw [← hW2.out];exact Rd.byB))
  clear hW2 i0 i1 i2 i3 i4 r0 r1 f0 f1 n0 n1 c12 s1 s0 t1 t0 tz hW;obtain ⟨_,_,_,i0,i1,i2,i3,i4,r0,r1,f0,f1,n0,n1,_,_,_,_⟩:=id G2.out;have sz2:=G2.out.sz;have hh2:=G2.out.hb;have s1:=Nat.lt_of_succ_lt sz2;have s0:=Nat.lt_of_succ_lt s1;have t1:=Nat.lt_add_one_of_lt s1;have t0:=Nat.lt_add_one_of_lt s0;have tz:=Nat.lt_add_one_of_lt sz2;have hW:=G2.out.H.rows.base.2;refine Drawn.hd (fun w'=>w'.cell? ⟨w1.heap.size,0,none⟩=some (.int .i64 3)∧w'.cell? ⟨w1.heap.size,1,none⟩=some (.int .i64 xn)∧w'.cell? ⟨w.heap.size,3,none⟩=some (.int .i64 c)) (h:=fun hHeld=>?_);refine dT 0 151 ?_;refine dT 1 152 ?_;refine dT 2 153 ?_;refine dT 3 154 ?_;refine dT 4 155 ?_;refine dT 5 156 ?_;refine Drawn.cl 6 (fun K hK=>?_);go_simp;have G3:=Lib.hid (G2.out.below (W2:=W2.drew) (by exact Rd.byB))
  refine (isR G3.out.H hm ⟨3,xn⟩ hx c).mono ?_;rintro e w3 hR;obtain ⟨rk,rn,rfl,R⟩:=rrv_m hR;have K3:=rrm_kp R;have y0':=K3.cell y0 (G.out.no (by omega))
  have y1':=K3.cell y1 (G.out.no (by omega))
  have i3':=K3.cell i3 (G.out.no (Nat.le_refl _));have r0':=K3.cell r0 (G.out.no (by omega))
  have r1':=K3.cell r1 (G.out.no (by omega))
  have f0':=K3.frz f0 (by first | omega | (simp;omega)) (G.out.no (by omega))
  have f1':=K3.frz f1 (by first | omega | (simp;omega)) (G.out.no (by omega))
  have R2:=Lib.hid R;have ls1:=cell_lt r0';have ls2:=cell_lt y0';clear hR R K3
  go_wp2_with fail
  refine Drawn.bk hK (hS:=by (try dsimp only);exact ⟨y0',y1',i3'⟩) (h:=fun hHeld=>?_)
  clear hK K;refine Drawn.cl 7 (fun K hK=>?_);go_simp;refine Drawn.bk hK (h:=fun hHeld=>?_);clear hK K;refine dN ?_
  go_wp2_with fail
  refine bodyPost_ret (v:=.agg #[.int .i64 rk,.int .i64 rn]) (by simp [results,Try.results170,go_sem] <;> go_simp) rfl ?_
  exact G3.out.finR R2.out
 ·rw [rd_bad qk] at H1;have c12:=H1.c12;simp only [Sv.ends] at c12;replace G:=Lib.hid (G.out.next K1 H1);obtain ⟨_,_,_,i0,i1,i2,i3,i4,r0,r1,f0,f1,n0,n1,_,_,_,_⟩:=id G.out;have sz:=G.out.sz;have hh:=G.out.hb;have s1:=Nat.lt_of_succ_lt sz;have s0:=Nat.lt_of_succ_lt s1;have t1:=Nat.lt_add_one_of_lt s1;have t0:=Nat.lt_add_one_of_lt s0;have tz:=Nat.lt_add_one_of_lt sz;have hW:=G.out.H.rows.base.2;clear H1 K1
  go_wp2_with fail
  refine bodyPost_ret (v:=.agg #[.int .i64 0,.int .i64 0]) (by simp [results,Try.results170,go_sem] <;> go_simp) rfl ?_
  refine rrv_below (GB.fin G.out (by
   rw [show Run.isV E.f.classes ⟨xk,xn⟩ c h=.stop 6 h from by unfold Run.isV;rw [if_pos qk]]
   exact ⟨rfl,rfl⟩)) (by exact Rd.byB)
set_option maxRecDepth 100000 in
theorem gv24 (H:RH E w L h d Sv.run) (F:Fq E w L P m fr) (h1000:fr.regs.length≤1000) (a:Int) (b:Int) (c:Int) (n:Int) (hin:E.input.length≤1000) (va:Value) :
  Calls Try.prog 170 #[.pointer (some ⟨E.hb,0,none⟩),.pointer (some ⟨P.cb,0,none⟩),.agg #[.int .i64 24,.int .i64 a,.int .i64 b,.int .i64 c,.int .i64 n,va]] w (RRv E L d w (Run.takeIn E.input h)):=by
 have HH:=Lib.hid H;have HF:=Lib.hid F;have hhb:=H.rows.base.2;have hcb:=F.cbw;clear H F
 go_enter Try.func170,Try.ntmps170
 go_wp2_with fail
 generalize hWW:World.alloc _ _=W
 have G:=Lib.hid (show GB E L P m fr h d w 24 a b c n va Sv.run W from by rw [← hWW];exact GB.start HH.out HF.out _ _ _)
 clear hWW;refine (inR G.out.H hin).mono ?_;rintro e w3 hR;obtain ⟨rk,rn,rfl,R⟩:=rrv_m hR;have K3:=rrm_kp R;obtain ⟨_,_,_,i0,i1,i2,i3,i4,r0,r1,f0,f1,n0,n1,_,_,_,_⟩:=id G.out;have sz:=G.out.sz;have hh:=G.out.hb;have s1:=Nat.lt_of_succ_lt sz;have s0:=Nat.lt_of_succ_lt s1;have t1:=Nat.lt_add_one_of_lt s1;have t0:=Nat.lt_add_one_of_lt s0;have tz:=Nat.lt_add_one_of_lt sz;have hW:=G.out.H.rows.base.2;have r0':=K3.cell r0 (G.out.no (by omega))
 have r1':=K3.cell r1 (G.out.no (by omega))
 have f0':=K3.frz f0 (by first | omega | (simp;omega)) (G.out.no (by omega))
 have f1':=K3.frz f1 (by first | omega | (simp;omega)) (G.out.no (by omega))
 have R2:=Lib.hid R;have ls1:=cell_lt r0';clear hR R K3
 go_wp2_with fail
 refine bodyPost_ret (v:=.agg #[.int .i64 rk,.int .i64 rn]) (by simp [results,Try.results170,go_sem] <;> go_simp) rfl ?_
 exact G.out.finR R2.out
end
end Rhq
namespace Run
open D Num
inductive Out (Fr:Type) where
 | go (fr:Fr) (h:Hp)
 | back (v:Vl) (h:Hp)
 | thrown (o:Nat) (h:Hp)
 | stop (e:Int) (h:Hp)
section
variable {Fr:Type}
def outC (M:Mach Fr) (m callee:Me) (fr:Fr):Res Vl→Out Fr
 | .stop e h=>.stop e h
 | .thrown o h=>.thrown o h
 | .ok v h=>match M.resume m callee fr v with
  | none=>.stop 6 h
  | some fr=>.go fr h
def outA (M:Mach Fr) (f:Fi) (input:List Int) (fuel g d:Nat) (m:Me):Act Fr→Out Fr
 | .go fr h=>.go fr h
 | .back v h=>.back v h
 | .thrown o h=>.thrown o h
 | .stop e h=>.stop e h
 | .call k args fr h=>outC M m (meAt f k) fr (call M f input fuel g d (meAt f k) args h)
def outS (M:Mach Fr) (f:Fi) (input:List Int) (fuel g d:Nat) (m:Me) (fr:Fr) (h:Hp):Out Fr :=
 if fuel≤h.steps then .stop 0 h
 else match m.code[M.at_ fr]? with
  | none=>.stop 6 { h with steps:=h.steps+1 }
  | some i=>outA M f input fuel g d m (M.step f input m i fr { h with steps:=h.steps+1 })
def SameFrame (M:Mach Fr):Prop:=∀ f input m i fr h k args fr' h',M.step f input m i fr h=.call k args fr' h'→∀ f m o h,after M f m fr' o h=after M f m fr o h
theorem loop_out {M:Mach Fr}(hM:SameFrame M) (f:Fi) (input:List Int) (fuel g d:Nat) (m:Me) (fr:Fr) (h:Hp) :
  loop M f input fuel (g+1) d m fr h=match outS M f input fuel g d m fr h with
   | .stop e h=>.stop e h
   | .back v h=>.ok v h
   | .go fr h=>loop M f input fuel g d m fr h
   | .thrown o h=>match after M f m fr o h with
    | .go fr=>loop M f input fuel g d m fr h
    | .thrown=>.thrown o h
    | .stuck=>.stop 6 h:=by
 unfold outS;rw [loop]
 split
 ·rfl
 ·cases hi:m.code[M.at_ fr]? with
  | none=>rfl
  | some i =>
   simp only
   cases hst:M.step f input m i fr { h with steps:=h.steps+1 } with
   | go fr h=>rfl
   | back v h=>rfl
   | thrown o h=>rfl
   | stop e h=>rfl
   | call k args fr' h' =>
    have hA:=hM _ _ _ _ _ _ _ _ _ _ hst;simp only [outA,call]
    cases allOf f.classes h' args (meAt f k).params
    ·rfl
    ·simp only [Bool.true_eq_false,if_false]
     by_cases hd:20≤d
     ·simp only [hd,if_true];rfl
     ·simp only [hd,if_false]
      cases hl:loop M f input fuel g (d+1) (meAt f k) (M.enter (meAt f k) args) h' with
      | stop e h=>rfl
      | thrown o h=>simp only [outC,hA];cases after M f m fr o h <;> rfl
      | ok v h =>
       simp only [outC]
       cases M.resume m (meAt f k) fr' v <;> rfl
end
theorem act_call {α Fr:Type}{r:Res α}{K:α→Hp→Act Fr}{k:Nat}{args:List Vl}{fr':Fr}{h':Hp}(hK:∀ v h,K v h≠.call k args fr' h'):r.act K≠.call k args fr' h':=by
 cases r with
 | ok a h=>exact hK a h
 | thrown o h=>intro e;cases e
 | stop e h=>intro e;cases e
theorem rkind_call {v:Vl}{kd:Int}{h:Hp}{A:Act Rf}{k:Nat}{args:List Vl}{fr':Rf}{h':Hp}(hA:A≠.call k args fr' h'):rkind v kd h A≠.call k args fr' h':=by
 unfold rkind;split
 ·exact hA
 ·intro e;cases e
theorem rstep_call {f:Fi}{input:List Int}{m:Me}{i:Ins}{fr:Rf}{h:Hp}{k:Nat}{args:List Vl}{fr':Rf}{h':Hp}(he:rstep f input m i fr h=.call k args fr' h'):i.op=18∧fr'.at_=fr.at_∧fr'.regs=fr.regs:=by
 by_cases q:i.op=18
 ·refine ⟨q,?_⟩;unfold rstep at he
  repeat rw [if_neg (by omega)] at he
  rw [if_pos q] at he;unfold r18 at he
  split at he
  ·cases he
  ·injection he with _ _ e _
   subst e;exact ⟨rfl,rfl⟩
 ·exfalso
  revert he
  unfold rstep;have hset:∀ {fr:Rf}{a:Int}{v:Vl}{h:Hp},rset fr a v h≠.call k args fr' h':=fun e=>by cases e
  have hgo:∀ {fr:Rf}{a:Nat}{h:Hp},rgo fr a h≠.call k args fr' h':=fun e=>by cases e
  by_cases q1:i.op=1
  ·rw [if_pos q1];exact hset
  rw [if_neg q1]
  by_cases q2:i.op=2
  ·rw [if_pos q2];exact hset
  rw [if_neg q2]
  by_cases q3:i.op=3
  ·rw [if_pos q3];exact hset
  rw [if_neg q3]
  by_cases q4:i.op=4
  ·rw [if_pos q4];exact rkind_call hset
  rw [if_neg q4]
  by_cases q5:i.op=5
  ·rw [if_pos q5];exact act_call (fun v h=>hset)
  rw [if_neg q5]
  by_cases q6:i.op=6
  ·rw [if_pos q6];exact act_call (fun v h=>hset)
  rw [if_neg q6]
  by_cases q7:i.op=7
  ·rw [if_pos q7];exact rkind_call hset
  rw [if_neg q7]
  by_cases q8:i.op=8
  ·rw [if_pos q8];exact rkind_call hset
  rw [if_neg q8]
  by_cases q9:i.op=9
  ·rw [if_pos q9];exact rkind_call (rkind_call hset)
  rw [if_neg q9]
  by_cases q10:i.op=10
  ·rw [if_pos q10];exact hgo
  rw [if_neg q10]
  by_cases q11:i.op=11
  ·rw [if_pos q11];exact rkind_call hgo
  rw [if_neg q11]
  by_cases q12:i.op=12
  ·rw [if_pos q12];exact rkind_call hgo
  rw [if_neg q12]
  by_cases q13:i.op=13
  ·rw [if_pos q13];exact act_call (fun v h=>hset)
  rw [if_neg q13]
  by_cases q14:i.op=14
  ·rw [if_pos q14];exact rkind_call (act_call (fun v h=>hset))
  rw [if_neg q14]
  by_cases q15:i.op=15
  ·rw [if_pos q15];exact rkind_call (rkind_call (act_call (fun v h=>hgo)))
  rw [if_neg q15]
  by_cases q16:i.op=16
  ·rw [if_pos q16];exact rkind_call (act_call (fun v h=>hgo))
  rw [if_neg q16]
  by_cases q17:i.op=17
  ·rw [if_pos q17];exact rkind_call (act_call (fun v h=>hset))
  rw [if_neg q17,if_neg q]
  by_cases q19:i.op=19
  ·rw [if_pos q19];exact rkind_call hset
  rw [if_neg q19]
  by_cases q20:i.op=20
  ·rw [if_pos q20];unfold r20;split
   ·intro e;cases e
   ·refine rkind_call ?_;split <;> (intro e;cases e)
  rw [if_neg q20]
  by_cases q21:i.op=21
  ·rw [if_pos q21];exact rkind_call (act_call (fun v h e=>by cases e))
  rw [if_neg q21]
  by_cases q22:i.op=22
  ·rw [if_pos q22];exact rkind_call hset
  rw [if_neg q22]
  by_cases q23:i.op=23
  ·rw [if_pos q23];exact rkind_call (act_call (fun v h=>hgo))
  rw [if_neg q23]
  by_cases q24:i.op=24
  ·rw [if_pos q24];exact act_call (fun v h=>hset)
  rw [if_neg q24]
  intro e;cases e
theorem rm_same:SameFrame RM:=by
 intro f input m i fr h k args fr' h' he f2 m2 o h2
 obtain ⟨_,e1,e2⟩:=rstep_call he;have hat:RM.at_ fr'=RM.at_ fr:=e1
 have hcg:RM.caught m2 fr'=RM.caught m2 fr:=by
  funext a b
  show rcaught m2 fr' a b=rcaught m2 fr a b
  unfold rcaught;rw [e2]
 unfold after;rw [hat,hcg]
end Run
namespace Rhq
open Num Rd D Run Mem HierW Hpw Rhw
def DoQ (E:Ev) (L:RL) (P:Pl) (m:Me) (d:Nat) (fr:Rf) (w:World) (a:Out Rf) (e:Ending) (w':World):Prop :=
 ∃ (i:Int) (L':RL),e=.returned (.int .i64 i)∧Kp (KX E L P) w w'∧(∀ k,own E L' k→own E L k∨w.heap.size≤k)∧match a with
  | .go fr' h'=>i=(fr'.at_:Int)∧RH E w' L' h' d Sv.run∧Fq E w' L' P m ⟨fr'.regs,fr.at_,fr'.given,Vl.nil⟩
  | .back _ _=>False
  | .thrown o h'=>RH E w' L' h' d (Sv.thr o)∧Fq E w' L' P m ⟨fr.regs,fr.at_,Vl.nil,Vl.nil⟩
  | .stop c h'=>RH E w' L' h' d (Sv.ends c)∧∃ fr2,Fq E w' L' P m fr2
def oQ (a:Run.Act Rf):Out Rf:=match a with
 | .go fr h=>.go fr h
 | .back v h=>.back v h
 | .thrown o h=>.thrown o h
 | .stop e h=>.stop e h
 | .call _ _ _ h=>.stop 6 h
structure DB (E:Ev) (L:RL) (P:Pl) (m:Me) (fr:Rf) (h:Hp) (d:Nat) (w:World) (op a b c n:Int) (va:Value) (s:Sv) (W:World):Prop where
 H:RH E W L h d s
 F:Fq E W L P m fr
 K:Kp (own E L) w W
 i0:W.cell? ⟨w.heap.size,0,none⟩=some (.int .i64 op)
 i1:W.cell? ⟨w.heap.size,1,none⟩=some (.int .i64 a)
 i2:W.cell? ⟨w.heap.size,2,none⟩=some (.int .i64 b)
 i3:W.cell? ⟨w.heap.size,3,none⟩=some (.int .i64 c)
 i4:W.cell? ⟨w.heap.size,4,none⟩=some (.int .i64 n)
 i5:W.cell? ⟨w.heap.size,5,none⟩=some va
 base:E.B≤w.heap.size
 old:∀ k,own E L k→k < w.heap.size
 far:P.cb < w.heap.size∧P.lb < w.heap.size
 hb:E.hb < w.heap.size
def RUm (E:Ev) (L:RL) (d:Nat) (w w':World) (r:Res Unit):Prop:=match r with
 | .ok _ h'=>RL2 E L d w w' h' Sv.run
 | .thrown o h'=>RL2 E L d w w' h' (Sv.thr o)
 | .stop c h'=>RL2 E L d w w' h' (Sv.ends c)
section
variable {E:Ev}{w w' w1 w2 w3 W W2:World}{L L':RL}{h h':Hp}{d:Nat}{s s':Sv}{P:Pl}{m:Me}{rg:List Vl}{ap:Nat}{op a b c n:Int}{va:Value}
theorem rru_m {r:Res Unit}{e:Ending}(H:RRu E L d w r e w'):e=.returned (.tuple #[])∧RUm E L d w w' r:=⟨H.1,by have:=H.2;cases r <;> exact this⟩
theorem rum_kp {r:Res Unit}(H:RUm E L d w w' r):Kp (own E L) w w':=by
 cases r with
 | ok a h'=>obtain ⟨L',K,_⟩:=H;exact K
 | thrown o h'=>obtain ⟨L',K,_⟩:=H;exact K
 | stop c h'=>obtain ⟨L',K,_⟩:=H;exact K
theorem DB.start {fr:Rf}(H:RH E w L h d s) (F:Fq E w L P m fr) (T1:TypeId):DB E L P m fr h d w op a b c n va s (w.alloc (.cells #[.int .i64 op,.int .i64 a,.int .i64 b,.int .i64 c,.int .i64 n,va] T1)):=by
 have hb:Below w.heap.size w (w.alloc (.cells #[.int .i64 op,.int .i64 a,.int .i64 b,.int .i64 c,.int .i64 n,va] T1)):=by exact Rd.byB
 exact ⟨H.below hb,F.below hb,kpB hb,by go_simp,by go_simp,by go_simp,by go_simp,by go_simp,by go_simp,by have:=H.rows.base;omega,fun k hk=>(own_lo H.rows hk).2,⟨F.cbw,F.lbw⟩,H.rows.base.2⟩
theorem DB.sz {fr:Rf}(G:DB E L P m fr h d w op a b c n va s W):w.heap.size < W.heap.size:=cell_lt G.i0
theorem DB.no {fr:Rf}(G:DB E L P m fr h d w op a b c n va s W){k:Nat}(hk:w.heap.size≤k):¬ own E L k:=fun q=>by have:=G.old k q;omega
theorem DB.next {fr:Rf}(G:DB E L P m fr h d w op a b c n va s W) (K:Kp (own E L) W W2) (H:RH E W2 L h d s'):DB E L P m fr h d w op a b c n va s' W2:=by
 have q0:=G.no (Nat.le_refl _);exact ⟨H,G.F.heap K same_own,G.K.trans K (fun _ e=>.inl e),K.cell G.i0 q0,K.cell G.i1 q0,K.cell G.i2 q0,K.cell G.i3 q0,K.cell G.i4 q0,K.cell G.i5 q0,G.base,G.old,G.far,G.hb⟩
theorem DB.below {fr:Rf}(G:DB E L P m fr h d w op a b c n va s W) (hb:Below W.heap.size W W2):DB E L P m fr h d w op a b c n va s W2:=G.next (kpB hb) (G.H.below hb)
theorem DB.box {fr:Rf}(G:DB E L P m fr h d w op a b c n va s W){k:Nat}(hk:w.heap.size < k) (j:Nat) (v:Value):DB E L P m fr h d w op a b c n va s (W.setCell ⟨k,j,none⟩ v):=by
 have K:Kp (fun x=>x=k) W (W.setCell ⟨k,j,none⟩ v):=(Kp.refl (fun x=>x=k) W).setCell (p:=⟨k,j,none⟩) (.inl rfl) v;have q0:¬ (w.heap.size=k):=by omega
 have q1:¬ (P.cb=k):=by have:=G.far;omega
 have q2:¬ (P.lb=k):=by have:=G.far;omega
 have F:=G.F;exact ⟨G.H.res (by have:=G.base;omega) (G.no (by omega)) j v,⟨F.blk.next K q1,F.loc.next K q2,Nat.lt_of_lt_of_le F.lbw K.size,F.lo,F.far,F.ne⟩,G.K.setCell (p:=⟨k,j,none⟩) (.inr (Nat.le_of_lt hk)) v,K.cell G.i0 q0,K.cell G.i1 q0,K.cell G.i2 q0,K.cell G.i3 q0,K.cell G.i4 q0,K.cell G.i5 q0,G.base,G.old,G.far,G.hb⟩
theorem DoQ.below {fr:Rf}{x:Out Rf}{e:Ending}(D:DoQ E L P m d fr w x e w1) (hb:Below w1.heap.size w1 w2):DoQ E L P m d fr w x e w2:=by
 obtain ⟨i,L',he,K,N,D⟩:=D;refine ⟨i,L',he,K.trans (kpB (X:=fun _=>False) hb) (fun _ e=>e.elim),N,?_⟩
 cases x with
 | go fr' h'=>exact ⟨D.1,D.2.1.below hb,D.2.2.below hb⟩
 | back v h'=>exact D
 | thrown o h'=>exact ⟨D.1.below hb,D.2.below hb⟩
 | stop c h'=>exact ⟨D.1.below hb,D.2.imp fun _ F=>F.below hb⟩
theorem DB.go (G:DB E L P m ⟨rg,ap,Vl.nil,Vl.nil⟩ h d w op a b c n va Sv.run W) (t:Nat){i:Int}(hi:i=(t:Int)):DoQ E L P m d ⟨rg,ap,Vl.nil,Vl.nil⟩ w (.go ⟨rg,t,Vl.nil,Vl.nil⟩ h) (.returned (.int .i64 i)) W :=
 ⟨i,L,rfl,G.K.mono (fun _ e=>.inl e),same_own,hi,G.H,G.F⟩
theorem DB.ends {c2:Int}(G:DB E L P m ⟨rg,ap,Vl.nil,Vl.nil⟩ h d w op a b c n va (Sv.ends c2) W) (t:Int):DoQ E L P m d ⟨rg,ap,Vl.nil,Vl.nil⟩ w (.stop c2 h) (.returned (.int .i64 t)) W :=
 ⟨t,L,rfl,G.K.mono (fun _ e=>.inl e),same_own,G.H,_,G.F⟩
theorem DB.ofU (G:DB E L P m ⟨rg,ap,Vl.nil,Vl.nil⟩ h d w op a b c n va Sv.run W){r:Res Unit}(R:RUm E L d W w2 r):DoQ E L P m d ⟨rg,ap,Vl.nil,Vl.nil⟩ w (oQ (r.act fun _ h=>.go ⟨rg,ap+1,Vl.nil,Vl.nil⟩ h)) (.returned (.int .i64 ((ap:Int)+1))) w2:=by
 have hs:=G.sz;have hk:=rum_kp R
 have key:∀ (h':Hp) (s':Sv),RL2 E L d W w2 h' s'→∃ L',Kp (KX E L P) w w2∧(∀ k,own E L' k→own E L k∨w.heap.size≤k)∧RH E w2 L' h' d s'∧Fq E w2 L' P m ⟨rg,ap,Vl.nil,Vl.nil⟩:=fun h' s' ⟨L',K2,N2,H2⟩ =>
  ⟨L',(G.K.trans K2 (fun _ e=>.inl e)).mono (fun _ e=>.inl e),fun k hk=>(N2 k hk).imp id (fun q=>by omega),H2,G.F.heap K2 N2⟩
 cases r with
 | ok x h'=>obtain ⟨L',a1,a2,a3,a4⟩:=key _ _ R;exact ⟨_,L',rfl,a1,a2,by simp,a3,a4⟩
 | thrown o h'=>obtain ⟨L',a1,a2,a3,a4⟩:=key _ _ R;exact ⟨_,L',rfl,a1,a2,a3,a4⟩
 | stop c h'=>obtain ⟨L',a1,a2,a3,a4⟩:=key _ _ R;exact ⟨_,L',rfl,a1,a2,a3,_,a4⟩
theorem DB.wr (G:DB E L P m ⟨rg,ap,Vl.nil,Vl.nil⟩ h d w op a b c n va Sv.run W){x:Vl}{h2:Hp}{k:Nat}{L2:RL}{e:Ending}(K:Kp (own E L) W w2) (N:∀ k,own E L2 k→own E L k∨W.heap.size≤k) (Wq:WrQ E L2 P m h2 d Sv.run ⟨Run.store rg k x,ap,Vl.nil,Vl.nil⟩ w2 e w3):DoQ E L P m d ⟨rg,ap,Vl.nil,Vl.nil⟩ w (.go ⟨Run.store rg k x,ap+1,Vl.nil,Vl.nil⟩ h2) (.returned (.int .i64 ((ap:Int)+1))) w3:=by
 have hs:=G.sz;have hz:=G.K.size;obtain ⟨_,H3,F3,K3⟩:=Wq;refine ⟨_,L2,rfl,?_,fun k hk=>(N k hk).imp id (fun q=>by omega),by simp,H3,F3⟩
 refine ((G.K.trans K (fun _ e=>.inl e)).mono (fun _ e=>.inl e)).trans K3 (fun y hy=>?_)
 rcases hy with q | q
 ·rcases N y q with q | q
  ·exact .inl (.inl q)
  ·exact .inr (by omega)
 ·exact .inl (.inr q)
end
end Rhq
namespace Rhq
open Num Rd D Run Mem HierW Hpw Rhw
section
variable {E:Ev}{w w' w1 w2 w3 W W2:World}{L L':RL}{h h':Hp}{d:Nat}{s s':Sv}{P:Pl}{m:Me}{rg:List Vl}{ap:Nat}{op a b c n:Int}{va:Value}
set_option maxRecDepth 100000 in
theorem dq10 (H:RH E w L h d Sv.run) (F:Fq E w L P m ⟨rg,ap,Vl.nil,Vl.nil⟩) (h1000:rg.length≤1000) (hat:ap≤100000) (b:Int) (c:Int) (n:Int) (ka:Nat) (va:Value) :
  Calls Try.prog 118 #[.pointer (some ⟨E.hb,0,none⟩),.pointer (some ⟨P.cb,0,none⟩),.agg #[.int .i64 10,.int .i64 ka,.int .i64 b,.int .i64 c,.int .i64 n,va]] w (DoQ E L P m d ⟨rg,ap,Vl.nil,Vl.nil⟩ w (.go ⟨rg,ka,Vl.nil,Vl.nil⟩ h)):=by
 have HH:=Lib.hid H;have HF:=Lib.hid F;have hhb:=H.rows.base.2;have hcb:=F.cbw;have hcb1:P.cb < w.heap.size+1:=by omega
 have c13:w.cell? ⟨P.cb,13,none⟩=some (.int .i64 ap):=F.c13;have hwr:IntKind.i64.wrap ((ap:Int)+1)=(ap:Int)+1:=by rw [Num.wrap_i64,wrap64_id (by unfold Ok;omega)]
 clear H F
 go_enter Try.func118,Try.ntmps118
 go_wp2_with fail
 go_ret;exact (DB.start (op:=10) (a:=ka) (b:=b) (c:=c) (n:=n) (va:=va) HH.out HF.out _).go ka rfl
set_option maxRecDepth 100000 in
theorem dq11 (H:RH E w L h d Sv.run) (F:Fq E w L P m ⟨rg,ap,Vl.nil,Vl.nil⟩) (h1000:rg.length≤1000) (hat:ap≤100000) (b:Int) (n:Int) (ka:Nat) (kc:Nat) (hkc:kc < rg.length) (yk yn:Int) (hkc':Hid (rg.getD kc Vl.nil=⟨yk,yn⟩)) (va:Value) (r:Out Rf) (hr:r=if yk=1 then (.go ⟨rg,(if Num.holds b yn=true then ka else ap+1),Vl.nil,Vl.nil⟩ h) else .stop 6 h) :
  Calls Try.prog 118 #[.pointer (some ⟨E.hb,0,none⟩),.pointer (some ⟨P.cb,0,none⟩),.agg #[.int .i64 11,.int .i64 ka,.int .i64 b,.int .i64 kc,.int .i64 n,va]] w (DoQ E L P m d ⟨rg,ap,Vl.nil,Vl.nil⟩ w r):=by
 replace hr:=Lib.hid hr;have HH:=Lib.hid H;have HF:=Lib.hid F;have hhb:=H.rows.base.2;have hcb:=F.cbw;have hcb1:P.cb < w.heap.size+1:=by omega
 have c13:w.cell? ⟨P.cb,13,none⟩=some (.int .i64 ap):=F.c13;have hwr:IntKind.i64.wrap ((ap:Int)+1)=(ap:Int)+1:=by rw [Num.wrap_i64,wrap64_id (by unfold Ok;omega)]
 clear H F
 go_enter Try.func118,Try.ntmps118
 go_wp2_with fail
 generalize hWW:World.alloc _ _=W
 have G:=Lib.hid (show DB E L P m ⟨rg,ap,Vl.nil,Vl.nil⟩ h d w 11 ka b kc n va Sv.run W from by rw [← hWW];exact DB.start HH.out HF.out _)
 clear hWW c13;refine (readq G.out.H rfl G.out.F kc hkc h1000 ⟨yk,yn⟩ hkc' 1).mono ?_;rintro e w1 ⟨rfl,H1,K1⟩
 by_cases qk:yk=1
 ·subst qk;rw [rd_run rfl] at H1;have c12:=H1.c12;simp only [Sv.run] at c12;replace G:=Lib.hid (G.out.next K1 H1);obtain ⟨_,_,_,i0,i1,i2,i3,i4,i5,_,_,_,_⟩:=id G.out;have s0:=G.out.sz;have t0:=Nat.lt_add_one_of_lt s0;have hW:=G.out.H.rows.base.2;clear H1 K1;obtain ⟨p,hp⟩:∃ p,Hid (Num.holds b yn=p):=⟨_,Lib.hid rfl⟩
  cases p
  ·have e:=Lib.hid (show r=.go ⟨rg,ap+1,Vl.nil,Vl.nil⟩ h by rw [hr.out,if_pos rfl,hp.out];rfl)
   clear hr
   go_wp2_with (go_at_call 155;refine (NumW.rholds b yn _).mono ?_;rw [hp.out];rintro e w3 ⟨rfl,rfl⟩)
   go_ret;rw [e.out];exact (G.out.go (ap+1) (by simp)).below (by exact Rd.byB)
  ·have e:=Lib.hid (show r=.go ⟨rg,ka,Vl.nil,Vl.nil⟩ h by rw [hr.out,if_pos rfl,hp.out];rfl)
   clear hr
   go_wp2_with (go_at_call 155;refine (NumW.rholds b yn _).mono ?_;rw [hp.out];rintro e w3 ⟨rfl,rfl⟩)
   go_ret;rw [e.out];exact (G.out.go ka rfl).below (by exact Rd.byB)
 ·rw [rd_bad qk] at H1;have c12:=H1.c12;simp only [Sv.ends] at c12;replace G:=Lib.hid (G.out.next K1 H1);obtain ⟨_,_,_,i0,i1,i2,i3,i4,i5,_,_,_,_⟩:=id G.out;have s0:=G.out.sz;have t0:=Nat.lt_add_one_of_lt s0;have hW:=G.out.H.rows.base.2;clear H1 K1;have e:r=.stop 6 h:=by rw [hr.out,if_neg qk]
  replace e:=Lib.hid e;clear hr;obtain ⟨p,hp⟩:∃ p,Hid (Num.holds b yn=p):=⟨_,Lib.hid rfl⟩
  cases p
  ·go_wp2_with (go_at_call 155;refine (NumW.rholds b yn _).mono ?_;rw [hp.out];rintro e w3 ⟨rfl,rfl⟩)
   go_ret;rw [e.out];exact (G.out.ends _).below (by exact Rd.byB)
  ·go_wp2_with (go_at_call 155;refine (NumW.rholds b yn _).mono ?_;rw [hp.out];rintro e w3 ⟨rfl,rfl⟩)
   go_ret;rw [e.out];exact (G.out.ends _).below (by exact Rd.byB)
set_option maxRecDepth 100000 in
theorem dq12 (H:RH E w L h d Sv.run) (F:Fq E w L P m ⟨rg,ap,Vl.nil,Vl.nil⟩) (h1000:rg.length≤1000) (hat:ap≤100000) (b:Int) (n:Int) (ka:Nat) (kc:Nat) (hkc:kc < rg.length) (yk yn:Int) (hkc':Hid (rg.getD kc Vl.nil=⟨yk,yn⟩)) (va:Value) (r:Out Rf) (hr:r=if yk=3 then (.go ⟨rg,(if yn < 0 then ka else ap+1),Vl.nil,Vl.nil⟩ h) else .stop 6 h) :
  Calls Try.prog 118 #[.pointer (some ⟨E.hb,0,none⟩),.pointer (some ⟨P.cb,0,none⟩),.agg #[.int .i64 12,.int .i64 ka,.int .i64 b,.int .i64 kc,.int .i64 n,va]] w (DoQ E L P m d ⟨rg,ap,Vl.nil,Vl.nil⟩ w r):=by
 replace hr:=Lib.hid hr;have HH:=Lib.hid H;have HF:=Lib.hid F;have hhb:=H.rows.base.2;have hcb:=F.cbw;have hcb1:P.cb < w.heap.size+1:=by omega
 have c13:w.cell? ⟨P.cb,13,none⟩=some (.int .i64 ap):=F.c13;have hwr:IntKind.i64.wrap ((ap:Int)+1)=(ap:Int)+1:=by rw [Num.wrap_i64,wrap64_id (by unfold Ok;omega)]
 clear H F
 go_enter Try.func118,Try.ntmps118
 go_wp2_with fail
 generalize hWW:World.alloc _ _=W
 have G:=Lib.hid (show DB E L P m ⟨rg,ap,Vl.nil,Vl.nil⟩ h d w 12 ka b kc n va Sv.run W from by rw [← hWW];exact DB.start HH.out HF.out _)
 clear hWW c13;refine (readq G.out.H rfl G.out.F kc hkc h1000 ⟨yk,yn⟩ hkc' 3).mono ?_;rintro e w1 ⟨rfl,H1,K1⟩
 by_cases qk:yk=3
 ·subst qk;rw [rd_run rfl] at H1;have c12:=H1.c12;simp only [Sv.run] at c12;replace G:=Lib.hid (G.out.next K1 H1);obtain ⟨_,_,_,i0,i1,i2,i3,i4,i5,_,_,_,_⟩:=id G.out;have s0:=G.out.sz;have t0:=Nat.lt_add_one_of_lt s0;have hW:=G.out.H.rows.base.2;clear H1 K1
  by_cases qn:yn < 0
  ·have qb:decide (yn < 0)=true:=by simpa using qn
   have e:=Lib.hid (show r=.go ⟨rg,ka,Vl.nil,Vl.nil⟩ h by rw [hr.out,if_pos rfl,if_pos qn])
   clear hr
   go_wp2_with fail
   go_ret;rw [e.out];exact (G.out.go ka rfl).below (by exact Rd.byB)
  ·have qb:decide (yn < 0)=false:=by simpa using qn
   have e:=Lib.hid (show r=.go ⟨rg,ap+1,Vl.nil,Vl.nil⟩ h by rw [hr.out,if_pos rfl,if_neg qn])
   clear hr
   go_wp2_with fail
   go_ret;rw [e.out];exact (G.out.go (ap+1) (by simp)).below (by exact Rd.byB)
 ·rw [rd_bad qk] at H1;have c12:=H1.c12;simp only [Sv.ends] at c12;replace G:=Lib.hid (G.out.next K1 H1);obtain ⟨_,_,_,i0,i1,i2,i3,i4,i5,_,_,_,_⟩:=id G.out;have s0:=G.out.sz;have t0:=Nat.lt_add_one_of_lt s0;have hW:=G.out.H.rows.base.2;clear H1 K1;have e:r=.stop 6 h:=by rw [hr.out,if_neg qk]
  replace e:=Lib.hid e;clear hr
  by_cases qn:yn < 0
  ·have qb:decide (yn < 0)=true:=by simpa using qn
   go_wp2_with fail
   go_ret;rw [e.out];exact (G.out.ends _).below (by exact Rd.byB)
  ·have qb:decide (yn < 0)=false:=by simpa using qn
   go_wp2_with fail
   go_ret;rw [e.out];exact (G.out.ends _).below (by exact Rd.byB)
end
end Rhq
namespace Rhq
open Num Rd D Run Mem HierW Hpw Rhw
section
variable {E:Ev}{w w' w1 w2 w3 W W2:World}{L L':RL}{h h':Hp}{d:Nat}{s s':Sv}{P:Pl}{m:Me}{rg:List Vl}{ap:Nat}{op a b c n:Int}{va:Value}
set_option maxRecDepth 100000 in
theorem dq16 (H:RH E w L h d Sv.run) (F:Fq E w L P m ⟨rg,ap,Vl.nil,Vl.nil⟩) (h1000:rg.length≤1000) (hat:ap≤100000) (b:Int) (c:Int) (n:Int) (ka:Nat) (hka:ka < rg.length) (xk xn:Int) (hka':Hid (rg.getD ka Vl.nil=⟨xk,xn⟩)) (hm:Hier.may E.f.classes=true) (hx:VlOk h.objs.length ⟨xk,xn⟩) (va:Value) :
  Calls Try.prog 118 #[.pointer (some ⟨E.hb,0,none⟩),.pointer (some ⟨P.cb,0,none⟩),.agg #[.int .i64 16,.int .i64 ka,.int .i64 b,.int .i64 c,.int .i64 n,va]] w (DoQ E L P m d ⟨rg,ap,Vl.nil,Vl.nil⟩ w (oQ ((Run.cast E.f.classes ⟨xk,xn⟩ b h).act fun _ h=>.go ⟨rg,ap+1,Vl.nil,Vl.nil⟩ h))):=by
 have HH:=Lib.hid H;have HF:=Lib.hid F;have hhb:=H.rows.base.2;have hcb:=F.cbw;have hcb1:P.cb < w.heap.size+1:=by omega
 have c13:w.cell? ⟨P.cb,13,none⟩=some (.int .i64 ap):=F.c13;have hwr:IntKind.i64.wrap ((ap:Int)+1)=(ap:Int)+1:=by rw [Num.wrap_i64,wrap64_id (by unfold Ok;omega)]
 clear H F
 go_enter Try.func118,Try.ntmps118
 go_wp2_with fail
 generalize hWW:World.alloc _ _=W
 have G:=Lib.hid (show DB E L P m ⟨rg,ap,Vl.nil,Vl.nil⟩ h d w 16 ka b c n va Sv.run W from by rw [← hWW];exact DB.start HH.out HF.out _)
 clear hWW c13;refine (readq G.out.H rfl G.out.F ka hka h1000 ⟨xk,xn⟩ hka' 3).mono ?_;rintro e w1 ⟨rfl,H1,K1⟩
 by_cases qk:xk=3
 ·rw [rd_run qk] at H1;clear qk;have c12:=H1.c12;simp only [Sv.run] at c12;replace G:=Lib.hid (G.out.next K1 H1);obtain ⟨_,_,_,i0,i1,i2,i3,i4,i5,_,_,_,_⟩:=id G.out;have s0:=G.out.sz;have t0:=Nat.lt_add_one_of_lt s0;have hW:=G.out.H.rows.base.2;clear H1 K1
  go_wp2_with fail
  generalize hW2:World.alloc w1 _=W2
  replace hW2:=Lib.hid hW2;have y0:W2.cell? ⟨w1.heap.size,0,none⟩=some (.int .i64 xk):=by rw [← hW2.out];go_simp
  have y1:W2.cell? ⟨w1.heap.size,1,none⟩=some (.int .i64 xn):=by rw [← hW2.out];go_simp
  have ly:=cell_lt y0;have hs1:=G.out.sz;have G2:=Lib.hid (G.out.below (W2:=W2) (by rw [← hW2.out];exact Rd.byB))
  clear hW2 i0 i1 i2 i3 i4 i5 c12 t0 hW s0;obtain ⟨_,_,_,i0,i1,i2,i3,i4,i5,_,_,_,_⟩:=id G2.out;have s0:=G2.out.sz;have t0:=Nat.lt_add_one_of_lt s0;have hW:=G2.out.H.rows.base.2;refine Drawn.hd (fun w'=>w'.cell? ⟨w1.heap.size,0,none⟩=some (.int .i64 xk)∧w'.cell? ⟨w1.heap.size,1,none⟩=some (.int .i64 xn)∧w'.cell? ⟨w.heap.size,2,none⟩=some (.int .i64 b)) (h:=fun hHeld=>?_);refine dT 0 192 ?_;refine dT 1 193 ?_;refine dT 2 194 ?_;refine dT 3 195 ?_;refine dT 4 196 ?_;refine dT 5 197 ?_;refine Drawn.cl 6 (fun K hK=>?_);go_simp;have G3:=Lib.hid (G2.out.below (W2:=W2.drew) (by exact Rd.byB))
  refine (castR G3.out.H hm ⟨xk,xn⟩ hx b).mono ?_;rintro e w3 hR;obtain ⟨rfl,R⟩:=rru_m hR;have K3:=rum_kp R;have y0':=K3.cell y0 (G.out.no (by omega))
  have y1':=K3.cell y1 (G.out.no (by omega))
  have i2':=K3.cell i2 (G.out.no (Nat.le_refl _));have R2:=Lib.hid R;clear hR R K3
  go_wp2_with fail
  refine Drawn.bk hK (hS:=by (try dsimp only);exact ⟨y0',y1',i2'⟩) (h:=fun hHeld=>?_)
  clear hK K;refine dN ?_
  go_wp2_with fail
  go_ret;exact G3.out.ofU R2.out
 ·rw [rd_bad qk] at H1;have c12:=H1.c12;simp only [Sv.ends] at c12;replace G:=Lib.hid (G.out.next K1 H1);obtain ⟨_,_,_,i0,i1,i2,i3,i4,i5,_,_,_,_⟩:=id G.out;have s0:=G.out.sz;have t0:=Nat.lt_add_one_of_lt s0;have hW:=G.out.H.rows.base.2;clear H1 K1;replace qk:=Lib.hid qk
  go_wp2_with fail
  go_ret;rw [show Run.cast E.f.classes ⟨xk,xn⟩ b h=.stop 6 h from by unfold Run.cast;rw [if_pos qk.out]]
  exact (G.out.ends _).below (by exact Rd.byB)
set_option maxRecDepth 100000 in
theorem dq21 (H:RH E w L h d Sv.run) (F:Fq E w L P m ⟨rg,ap,Vl.nil,Vl.nil⟩) (h1000:rg.length≤1000) (hat:ap≤100000) (b:Int) (c:Int) (n:Int) (ka:Nat) (hka:ka < rg.length) (xk xn:Int) (hka':Hid (rg.getD ka Vl.nil=⟨xk,xn⟩)) (hm:Hier.may E.f.classes=true) (va:Value) :
  Calls Try.prog 118 #[.pointer (some ⟨E.hb,0,none⟩),.pointer (some ⟨P.cb,0,none⟩),.agg #[.int .i64 21,.int .i64 ka,.int .i64 b,.int .i64 c,.int .i64 n,va]] w (DoQ E L P m d ⟨rg,ap,Vl.nil,Vl.nil⟩ w (oQ ((Run.throw E.f.classes ⟨xk,xn⟩ h:Res Unit).act fun _ h=>.go ⟨rg,ap+1,Vl.nil,Vl.nil⟩ h))):=by
 have HH:=Lib.hid H;have HF:=Lib.hid F;have hhb:=H.rows.base.2;have hcb:=F.cbw;have hcb1:P.cb < w.heap.size+1:=by omega
 have c13:w.cell? ⟨P.cb,13,none⟩=some (.int .i64 ap):=F.c13;have hwr:IntKind.i64.wrap ((ap:Int)+1)=(ap:Int)+1:=by rw [Num.wrap_i64,wrap64_id (by unfold Ok;omega)]
 clear H F
 go_enter Try.func118,Try.ntmps118
 go_wp2_with fail
 generalize hWW:World.alloc _ _=W
 have G:=Lib.hid (show DB E L P m ⟨rg,ap,Vl.nil,Vl.nil⟩ h d w 21 ka b c n va Sv.run W from by rw [← hWW];exact DB.start HH.out HF.out _)
 clear hWW c13;refine (readq G.out.H rfl G.out.F ka hka h1000 ⟨xk,xn⟩ hka' 3).mono ?_;rintro e w1 ⟨rfl,H1,K1⟩
 by_cases qk:xk=3
 ·rw [rd_run qk] at H1;clear qk;have c12:=H1.c12;simp only [Sv.run] at c12;replace G:=Lib.hid (G.out.next K1 H1);obtain ⟨_,_,_,i0,i1,i2,i3,i4,i5,_,_,_,_⟩:=id G.out;have s0:=G.out.sz;have t0:=Nat.lt_add_one_of_lt s0;have hW:=G.out.H.rows.base.2;clear H1 K1
  go_wp2_with fail
  generalize hW2:World.alloc w1 _=W2
  replace hW2:=Lib.hid hW2;have y0:W2.cell? ⟨w1.heap.size,0,none⟩=some (.int .i64 xk):=by rw [← hW2.out];go_simp
  have y1:W2.cell? ⟨w1.heap.size,1,none⟩=some (.int .i64 xn):=by rw [← hW2.out];go_simp
  have ly:=cell_lt y0;have hs1:=G.out.sz;have G2:=Lib.hid (G.out.below (W2:=W2) (by rw [← hW2.out];exact Rd.byB))
  clear hW2 i0 i1 i2 i3 i4 i5 c12 t0 hW s0;obtain ⟨_,_,_,i0,i1,i2,i3,i4,i5,_,_,_,_⟩:=id G2.out;have s0:=G2.out.sz;have t0:=Nat.lt_add_one_of_lt s0;have hW:=G2.out.H.rows.base.2;refine Drawn.hd (fun w'=>w'.cell? ⟨w1.heap.size,0,none⟩=some (.int .i64 xk)∧w'.cell? ⟨w1.heap.size,1,none⟩=some (.int .i64 xn)) (h:=fun hHeld=>?_);refine dT 0 130 ?_;refine dT 1 131 ?_;refine dT 2 132 ?_;refine dT 3 133 ?_;refine Drawn.cl 4 (fun K hK=>?_);go_simp;have G3:=Lib.hid (G2.out.below (W2:=W2.drew) (by exact Rd.byB))
  refine (throwR G3.out.H hm ⟨xk,xn⟩).mono ?_;rintro e w3 hR;obtain ⟨rfl,R⟩:=rru_m hR;have K3:=rum_kp R;have y0':=K3.cell y0 (G.out.no (by omega))
  have y1':=K3.cell y1 (G.out.no (by omega))
  have R2:=Lib.hid R;clear hR R K3
  go_wp2_with fail
  refine Drawn.bk hK (hS:=by (try dsimp only);exact ⟨y0',y1'⟩) (h:=fun hHeld=>?_)
  clear hK K;refine dN ?_
  go_wp2_with fail
  go_ret;exact G3.out.ofU R2.out
 ·rw [rd_bad qk] at H1;have c12:=H1.c12;simp only [Sv.ends] at c12;replace G:=Lib.hid (G.out.next K1 H1);obtain ⟨_,_,_,i0,i1,i2,i3,i4,i5,_,_,_,_⟩:=id G.out;have s0:=G.out.sz;have t0:=Nat.lt_add_one_of_lt s0;have hW:=G.out.H.rows.base.2;clear H1 K1;replace qk:=Lib.hid qk
  go_wp2_with fail
  go_ret;rw [show (Run.throw E.f.classes ⟨xk,xn⟩ h:Res Unit)=.stop 6 h from by unfold Run.throw;rw [if_pos qk.out]]
  exact (G.out.ends _).below (by exact Rd.byB)
set_option maxRecDepth 100000 in
theorem dq23 (H:RH E w L h d Sv.run) (F:Fq E w L P m ⟨rg,ap,Vl.nil,Vl.nil⟩) (h1000:rg.length≤1000) (hat:ap≤100000) (b:Int) (c:Int) (n:Int) (ka:Nat) (hka:ka < rg.length) (xk xn:Int) (hka':Hid (rg.getD ka Vl.nil=⟨xk,xn⟩)) (hout:h.out.length≤60000) (va:Value) :
  Calls Try.prog 118 #[.pointer (some ⟨E.hb,0,none⟩),.pointer (some ⟨P.cb,0,none⟩),.agg #[.int .i64 23,.int .i64 ka,.int .i64 b,.int .i64 c,.int .i64 n,va]] w (DoQ E L P m d ⟨rg,ap,Vl.nil,Vl.nil⟩ w (oQ ((Run.emit ⟨xk,xn⟩ b h).act fun _ h=>.go ⟨rg,ap+1,Vl.nil,Vl.nil⟩ h))):=by
 have HH:=Lib.hid H;have HF:=Lib.hid F;have hhb:=H.rows.base.2;have hcb:=F.cbw;have hcb1:P.cb < w.heap.size+1:=by omega
 have c13:w.cell? ⟨P.cb,13,none⟩=some (.int .i64 ap):=F.c13;have hwr:IntKind.i64.wrap ((ap:Int)+1)=(ap:Int)+1:=by rw [Num.wrap_i64,wrap64_id (by unfold Ok;omega)]
 clear H F
 go_enter Try.func118,Try.ntmps118
 go_wp2_with fail
 generalize hWW:World.alloc _ _=W
 have G:=Lib.hid (show DB E L P m ⟨rg,ap,Vl.nil,Vl.nil⟩ h d w 23 ka b c n va Sv.run W from by rw [← hWW];exact DB.start HH.out HF.out _)
 clear hWW c13;refine (readq G.out.H rfl G.out.F ka hka h1000 ⟨xk,xn⟩ hka' b).mono ?_;rintro e w1 ⟨rfl,H1,K1⟩
 by_cases qk:xk=b
 ·rw [rd_run qk] at H1;clear qk;have c12:=H1.c12;simp only [Sv.run] at c12;replace G:=Lib.hid (G.out.next K1 H1);obtain ⟨_,_,_,i0,i1,i2,i3,i4,i5,_,_,_,_⟩:=id G.out;have s0:=G.out.sz;have t0:=Nat.lt_add_one_of_lt s0;have hW:=G.out.H.rows.base.2;clear H1 K1
  go_wp2_with fail
  generalize hW2:World.alloc w1 _=W2
  replace hW2:=Lib.hid hW2;have y0:W2.cell? ⟨w1.heap.size,0,none⟩=some (.int .i64 xk):=by rw [← hW2.out];go_simp
  have y1:W2.cell? ⟨w1.heap.size,1,none⟩=some (.int .i64 xn):=by rw [← hW2.out];go_simp
  have ly:=cell_lt y0;have hs1:=G.out.sz;have G2:=Lib.hid (G.out.below (W2:=W2) (by rw [← hW2.out];exact Rd.byB))
  clear hW2 i0 i1 i2 i3 i4 i5 c12 t0 hW s0;obtain ⟨_,_,_,i0,i1,i2,i3,i4,i5,_,_,_,_⟩:=id G2.out;have s0:=G2.out.sz;have t0:=Nat.lt_add_one_of_lt s0;have hW:=G2.out.H.rows.base.2;refine Drawn.hd (fun w'=>w'.cell? ⟨w1.heap.size,0,none⟩=some (.int .i64 xk)∧w'.cell? ⟨w1.heap.size,1,none⟩=some (.int .i64 xn)∧w'.cell? ⟨w.heap.size,2,none⟩=some (.int .i64 b)) (h:=fun hHeld=>?_);refine dT 0 214 ?_;refine dT 1 215 ?_;refine dT 2 216 ?_;refine dT 3 217 ?_;refine dT 4 218 ?_;refine dT 5 219 ?_;refine Drawn.cl 6 (fun K hK=>?_);go_simp;have G3:=Lib.hid (G2.out.below (W2:=W2.drew) (by exact Rd.byB))
  refine (emitR G3.out.H ⟨xk,xn⟩ b hout).mono ?_;rintro e w3 hR;obtain ⟨rfl,R⟩:=rru_m hR;have K3:=rum_kp R;have y0':=K3.cell y0 (G.out.no (by omega))
  have y1':=K3.cell y1 (G.out.no (by omega))
  have i2':=K3.cell i2 (G.out.no (Nat.le_refl _));have R2:=Lib.hid R;clear hR R K3
  go_wp2_with fail
  refine Drawn.bk hK (hS:=by (try dsimp only);exact ⟨y0',y1',i2'⟩) (h:=fun hHeld=>?_)
  clear hK K;refine dN ?_
  go_wp2_with fail
  go_ret;exact G3.out.ofU R2.out
 ·rw [rd_bad qk] at H1;have c12:=H1.c12;simp only [Sv.ends] at c12;replace G:=Lib.hid (G.out.next K1 H1);obtain ⟨_,_,_,i0,i1,i2,i3,i4,i5,_,_,_,_⟩:=id G.out;have s0:=G.out.sz;have t0:=Nat.lt_add_one_of_lt s0;have hW:=G.out.H.rows.base.2;clear H1 K1;replace qk:=Lib.hid qk
  go_wp2_with fail
  go_ret;rw [show Run.emit ⟨xk,xn⟩ b h=.stop 6 h from by unfold Run.emit;rw [if_pos qk.out]]
  exact (G.out.ends _).below (by exact Rd.byB)
theorem DB.wrS (G:DB E L P m ⟨rg,ap,Vl.nil,Vl.nil⟩ h d w op a b c n va Sv.run W){x:Out Rf}{L2:RL}{i:Int}(K:Kp (own E L) W w2) (N:∀ k,own E L2 k→own E L k∨W.heap.size≤k) (K3:Kp (KX E L2 P) w2 w3) (hx:match x with
  | .go _ _=>False
  | .back _ _=>False
  | .thrown o h'=>RH E w3 L2 h' d (Sv.thr o)∧Fq E w3 L2 P m ⟨rg,ap,Vl.nil,Vl.nil⟩
  | .stop c h'=>RH E w3 L2 h' d (Sv.ends c)∧∃ fr2,Fq E w3 L2 P m fr2):DoQ E L P m d ⟨rg,ap,Vl.nil,Vl.nil⟩ w x (.returned (.int .i64 i)) w3:=by
 have hs:=G.sz;have hz:=G.K.size;refine ⟨_,L2,rfl,?_,fun k hk=>(N k hk).imp id (fun q=>by omega),?_⟩
 ·refine ((G.K.trans K (fun _ e=>.inl e)).mono (fun _ e=>.inl e)).trans K3 (fun y hy=>?_)
  rcases hy with q | q
  ·rcases N y q with q | q
   ·exact .inl (.inl q)
   ·exact .inr (by omega)
  ·exact .inl (.inr q)
 ·cases x with
  | go fr' h'=>exact hx.elim
  | back v h'=>exact hx
  | thrown o h'=>exact hx
  | stop c h'=>exact hx
set_option maxRecDepth 100000 in
theorem dqG (H:RH E w L h d Sv.run) (F:Fq E w L P m ⟨rg,ap,Vl.nil,Vl.nil⟩) (h1000:rg.length≤1000) (hat:ap≤100000) (op b:Int) (sa:Option Addr) (sn sc:Nat) (c:Int) (n:Int) (ka:Nat) (hP:Paired rg) (r:Res Vl) (hw:∀ x h2,r=.ok x h2→ka+width x≤rg.length) (hG:∀ W,RH E W L h d Sv.run→Fq E W L P m ⟨rg,ap,Vl.nil,Vl.nil⟩→Calls Try.prog 170 #[.pointer (some ⟨E.hb,0,none⟩),.pointer (some ⟨P.cb,0,none⟩),.agg #[.int .i64 op,.int .i64 ka,.int .i64 b,.int .i64 c,.int .i64 n,.slice sa sn sc]] W (RRv E L d W r)) (o10:(op==10)=false) (o11:(op==11)=false) (o12:(op==12)=false) (o18:(op==18)=false) (o21:(op==21)=false) (o15:(op==15)=false) (o16:(op==16)=false) (o23:(op==23)=false) :
  Calls Try.prog 118 #[.pointer (some ⟨E.hb,0,none⟩),.pointer (some ⟨P.cb,0,none⟩),.agg #[.int .i64 op,.int .i64 ka,.int .i64 b,.int .i64 c,.int .i64 n,.slice sa sn sc]] w (DoQ E L P m d ⟨rg,ap,Vl.nil,Vl.nil⟩ w (oQ (r.act fun v h=>.go ⟨Run.store rg ka v,ap+1,Vl.nil,Vl.nil⟩ h))):=by
 have HH:=Lib.hid H;have HF:=Lib.hid F;have hhb:=H.rows.base.2;have hcb:=F.cbw;have hcb1:P.cb < w.heap.size+1:=by omega
 have c13:w.cell? ⟨P.cb,13,none⟩=some (.int .i64 ap):=F.c13;have hwr:IntKind.i64.wrap ((ap:Int)+1)=(ap:Int)+1:=by rw [Num.wrap_i64,wrap64_id (by unfold Ok;omega)]
 clear H F
 go_enter Try.func118,Try.ntmps118
 go_wp2_with fail
 generalize hWW:World.alloc _ _=W
 have G:=Lib.hid (show DB E L P m ⟨rg,ap,Vl.nil,Vl.nil⟩ h d w op ka b c n (.slice sa sn sc) Sv.run W from by rw [← hWW];exact DB.start HH.out HF.out _)
 clear hWW c13;obtain ⟨_,_,_,i0,i1,i2,i3,i4,i5,_,_,_,_⟩:=id G.out;have s0:=G.out.sz;have t0:=Nat.lt_add_one_of_lt s0;have hW:=G.out.H.rows.base.2;refine (hG W G.out.H G.out.F).mono ?_;rintro e w1 hR;obtain ⟨rk,rn,rfl,R⟩:=rrv_m hR;have K1:=rrm_kp R;have i1':=K1.cell i1 (G.out.no (Nat.le_refl _));have hl1:=cell_lt i1'
 cases r with
 | ok x h2 =>
  obtain ⟨⟨rfl,rfl⟩,L2,K2,N2,H2⟩:=R;have F2:=Lib.hid (G.out.F.heap K2 N2);have hwx:=hw x h2 rfl;replace H2:=Lib.hid H2;replace K2:=Lib.hid K2;replace N2:=Lib.hid N2;clear hR K1 hw;obtain ⟨xk,xn⟩:=x
  go_wp2_with fail
  generalize hW2:World.alloc w1 _=W2
  replace hW2:=Lib.hid hW2;have hb2:Below w1.heap.size w1 W2:=by rw [← hW2.out];exact Rd.byB
  refine (writeq (H2.out.below hb2) (F2.out.below hb2) hP ka ⟨xk,xn⟩ hwx h1000).mono ?_;rintro e w3 Wq
  obtain rfl:=Wq.1
  replace Wq:=Lib.hid Wq;have D:=Lib.hid (G.out.wr (K2.out.trans (kpB (X:=own E L) hb2) (fun _ e=>.inl e)) N2.out Wq.out);clear hb2 hW2
  go_wp2_with fail
  go_ret;exact D.out
 | thrown o h2 =>
  obtain ⟨L2,K2,N2,H2⟩:=R;have F2:=Lib.hid (G.out.F.heap K2 N2);replace H2:=Lib.hid H2;replace K2:=Lib.hid K2;replace N2:=Lib.hid N2;clear hR K1 hw
  go_wp2_with fail
  generalize hW2:World.alloc w1 _=W2
  replace hW2:=Lib.hid hW2;have hb2:Below w1.heap.size w1 W2:=by rw [← hW2.out];exact Rd.byB
  refine (writeS (H2.out.below hb2) (.inr (by show (0:Int)≤((o:Nat):Int);omega)) (F2.out.below hb2) ka ⟨rk,rn⟩).mono ?_
  rintro e w3 ⟨rfl,H3,F3,K3⟩;have D:=Lib.hid (show DoQ E L P m d ⟨rg,ap,Vl.nil,Vl.nil⟩ w (.thrown o h2) (.returned (.int .i64 ((ap:Int)+1))) w3 from DB.wrS G.out (K2.out.trans (kpB (X:=own E L) hb2) (fun _ e=>.inl e)) N2.out K3 ⟨H3,F3⟩);clear hb2 hW2 H3 F3 K3
  go_wp2_with fail
  go_ret;exact D.out
 | stop c2 h2 =>
  obtain ⟨L2,K2,N2,H2⟩:=R;have F2:=Lib.hid (G.out.F.heap K2 N2);replace H2:=Lib.hid H2;replace K2:=Lib.hid K2;replace N2:=Lib.hid N2;clear hR K1 hw
  go_wp2_with fail
  generalize hW2:World.alloc w1 _=W2
  replace hW2:=Lib.hid hW2;have hb2:Below w1.heap.size w1 W2:=by rw [← hW2.out];exact Rd.byB
  refine (writeS (H2.out.below hb2) (.inl rfl) (F2.out.below hb2) ka ⟨rk,rn⟩).mono ?_;rintro e w3 ⟨rfl,H3,F3,K3⟩;have D:=Lib.hid (show DoQ E L P m d ⟨rg,ap,Vl.nil,Vl.nil⟩ w (.stop c2 h2) (.returned (.int .i64 ((ap:Int)+1))) w3 from DB.wrS G.out (K2.out.trans (kpB (X:=own E L) hb2) (fun _ e=>.inl e)) N2.out K3 ⟨H3,_,F3⟩);clear hb2 hW2 H3 F3 K3
  go_wp2_with fail
  go_ret;exact D.out
end
end Rhq
namespace Rhq
open Num Rd D Run Mem HierW Hpw Rhw
theorem put_v {l:List Cls}{r v:Vl}{t:Ty}{h:Hp}{c k:Int}(q:¬ v.kind=t.kind):Run.put l r c k v t h=.stop 6 h:=by
 unfold Run.put;rw [if_pos (by unfold ofT;simp [q])]
theorem put_r {l:List Cls}{r v:Vl}{t:Ty}{h:Hp}{c k:Int}(q:¬ r.kind=3):Run.put l r c k v t h=.stop 6 h:=by
 unfold Run.put
 split
 ·rfl
 ·rw [if_pos (by unfold ofT;simp [q])]
section
variable {E:Ev}{w w' w1 w2 w3 W W2:World}{L L':RL}{h h':Hp}{d:Nat}{s s':Sv}{P:Pl}{m:Me}{rg:List Vl}{ap:Nat}{op a b c n:Int}{va:Value}
set_option maxRecDepth 100000 in
theorem dq15 (H:RH E w L h d Sv.run) (F:Fq E w L P m ⟨rg,ap,Vl.nil,Vl.nil⟩) (h1000:rg.length≤1000) (hat:ap≤100000)  (ka:Nat) (hka:ka < rg.length) (ak an:Int) (hka':Hid (rg.getD ka Vl.nil=⟨ak,an⟩)) (kb:Nat) (hkb:kb < rg.length) (bk bn:Int) (hkb':Hid (rg.getD kb Vl.nil=⟨bk,bn⟩)) (kc kn:Nat) (hkc:kc < E.f.classes.length) (hkn:kn < (Hier.at' E.f.classes kc).fields.length) (hm:Hier.may E.f.classes=true) (HO:HpOk E.f.classes E.input E.fuel h) (hva:VlOk h.objs.length ⟨ak,an⟩) (hvb:VlOk h.objs.length ⟨bk,bn⟩) (va:Value) :
  Calls Try.prog 118 #[.pointer (some ⟨E.hb,0,none⟩),.pointer (some ⟨P.cb,0,none⟩),.agg #[.int .i64 15,.int .i64 ka,.int .i64 kb,.int .i64 kc,.int .i64 kn,va]] w (DoQ E L P m d ⟨rg,ap,Vl.nil,Vl.nil⟩ w (oQ ((Run.put E.f.classes ⟨bk,bn⟩ kc kn ⟨ak,an⟩ (ftype E.f.classes kc kn) h).act fun _ h=>.go ⟨rg,ap+1,Vl.nil,Vl.nil⟩ h))):=by
 have HH:=Lib.hid H;have HF:=Lib.hid F;have hhb:=H.rows.base.2;have hcb:=F.cbw;have hcb1:P.cb < w.heap.size+1:=by omega
 have c13:w.cell? ⟨P.cb,13,none⟩=some (.int .i64 ap):=F.c13;have hwr:IntKind.i64.wrap ((ap:Int)+1)=(ap:Int)+1:=by rw [Num.wrap_i64,wrap64_id (by unfold Ok;omega)]
 clear H F
 go_enter Try.func118,Try.ntmps118
 go_wp2_with fail
 generalize hWW:World.alloc _ _=W
 have G:=Lib.hid (show DB E L P m ⟨rg,ap,Vl.nil,Vl.nil⟩ h d w 15 ka kb kc kn va Sv.run W from by rw [← hWW];exact DB.start HH.out HF.out _)
 clear hWW c13;refine (readq G.out.H rfl G.out.F kb hkb h1000 ⟨bk,bn⟩ hkb' 3).mono ?_;rintro e w1 ⟨rfl,H1,K1⟩;replace G:=Lib.hid (G.out.next K1 H1);obtain ⟨_,_,_,i0,i1,i2,i3,i4,i5,_,_,_,_⟩:=id G.out;have s0:=G.out.sz;have t0:=Nat.lt_add_one_of_lt s0;have hW:=G.out.H.rows.base.2;clear H1 K1
 go_wp2_with fail
 generalize hW2:World.alloc w1 _=W2
 replace hW2:=Lib.hid hW2;have y0:W2.cell? ⟨w1.heap.size,0,none⟩=some (.int .i64 bk):=by rw [← hW2.out];go_simp
 have y1:W2.cell? ⟨w1.heap.size,1,none⟩=some (.int .i64 bn):=by rw [← hW2.out];go_simp
 have ly:=cell_lt y0;have hs1:=G.out.sz;have G2:=Lib.hid (G.out.below (W2:=W2) (by rw [← hW2.out];exact Rd.byB))
 clear hW2 i0 i1 i2 i3 i4 i5 t0 hW s0;obtain ⟨_,_,_,i0,i1,i2,i3,i4,i5,_,_,_,_⟩:=id G2.out;have s0:=G2.out.sz;have t0:=Nat.lt_add_one_of_lt s0;have hW:=G2.out.H.rows.base.2;have HS0:=G2.out.H;obtain ⟨ca,ccap,hvc,c1,c2,hel⟩:=id HS0.rows.cls;obtain ⟨cb,co,rfl,hcb',he⟩:=hel kc hkc;obtain ⟨x,hx⟩:=at_of hkc;rw [hx.out] at he;obtain ⟨_,_,fv,e2,hf⟩:=he;have hfx:Hier.at' E.f.classes kc=x:=by rw [Hier.at_eq hkc,hx.out]
 rw [hfx] at hkn;obtain ⟨fa,fcap,rfl,c3,c4,hfe⟩:=hf;obtain ⟨fb,fo,rfl,hfb,hfe2⟩:=hfe kn hkn;obtain ⟨t,htt⟩:=at_of hkn;rw [htt.out] at hfe2;obtain ⟨t1,_,_,_⟩:=hfe2
 have hft:ftype E.f.classes kc kn=t:=by
  unfold ftype;rw [Int.toNat_natCast,Int.toNat_natCast,hfx,List.getD_eq_getElem?_getD,List.getElem?_eq_getElem hkn,htt.out];rfl
 obtain ⟨tk,tc⟩:=t;simp only at t1;have h0:=HS0.c0;rw [hvc] at h0;have HPUT:=Lib.hid (fun (W9:World) (hW9:RH E W9 L h d Sv.run)=>putHR hW9 hm HO ⟨bk,bn⟩ ⟨ak,an⟩ hvb hva kc kn hkc (by rw [hfx];exact hkn))
 rw [hft] at HPUT;have HR:=Lib.hid hft;obtain ⟨ncl,hncl⟩:∃ q,q=E.f.classes.length:=⟨_,rfl⟩;obtain ⟨nfl,hnfl⟩:∃ q,q=x.fields.length:=⟨_,rfl⟩;have hci:(kc:Int) < ncl:=by omega
 have hki:(kn:Int) < nfl:=by omega
 rw [← hncl] at h0 hvc;rw [← hnfl] at e2;have hvc':=Lib.hid hvc;have ncb:=Lib.hid (show ¬ own E L cb from fun hk=>by have:=(own_lo HS0.rows hk).1;omega)
 have nfb:=Lib.hid (show ¬ own E L fb from fun hk=>by have:=(own_lo HS0.rows hk).1;omega)
 have lcb:=cell_lt e2;have lfb:=cell_lt t1;clear HS0 hel hfe hvb hva hft hfx hncl hnfl htt hx hvc hkc hkn c1 c2 c3 c4
 go_upto_region 31 with (fail)
 go_cut [16] from 142 to 165 (fun s16 wx=>∃ b16:Nat,s16=.pointer (some ⟨b16,0,none⟩)∧Hid (DB E L P m ⟨rg,ap,Vl.nil,Vl.nil⟩ h d w 15 ka kb kc kn va (rdS (rdS Sv.run bk 3) ak tk) wx)∧wx.cell? ⟨w1.heap.size,0,none⟩=some (.int .i64 bk)∧wx.cell? ⟨w1.heap.size,1,none⟩=some (.int .i64 bn)∧wx.cell? ⟨b16,0,none⟩=some (.int .i64 ak)∧wx.cell? ⟨b16,1,none⟩=some (.int .i64 an)∧w.heap.size≤b16)
 case first =>
  refine Drawn.hd (fun w'=>w'.cell? ⟨w.heap.size,1,none⟩=some (.int .i64 ka)∧w'.cell? ⟨w.heap.size,3,none⟩=some (.int .i64 kc)∧w'.cell? ⟨w.heap.size,4,none⟩=some (.int .i64 kn)∧w'.cell? ⟨E.hb,0,none⟩=some (.slice (some ⟨cb,co,none⟩) ncl ccap)∧w'.cell? ⟨cb,co+kc*2+1,none⟩=some (.slice (some ⟨fb,fo,none⟩) nfl fcap)∧w'.cell? ⟨fb,fo+kn*2,none⟩=some (.int .i64 tk)) (h:=fun hHeld=>?_);refine dT 0 142 ?_;refine dT 1 143 ?_;refine dT 2 144 ?_;refine dT 3 145 ?_;refine dT 4 146 ?_;refine dT 5 147 ?_;refine dT 6 148 ?_;refine dT 7 149 ?_;refine dT 8 150 ?_;refine dT 9 151 ?_;refine dT 10 152 ?_;refine dT 11 153 ?_;refine dT 12 154 ?_;refine dT 13 155 ?_;refine dT 14 156 ?_;refine dT 15 157 ?_;refine dT 16 158 ?_;refine dT 17 159 ?_;refine dT 18 160 ?_;refine dT 19 161 ?_;refine wpAnyH_ready (rs:=[20,21]) (by kernel_rfl) (by simp) ?_
  refine AllReadyH.cons rfl (fun K hK=>?_) (AllReadyH.cons rfl (fun K hK=>?_) AllReadyH.nil)
  ·go_simp;refine (readq (G2.out.below (W2:=W2.drew) (by exact Rd.byB)).H (by unfold rdS;split <;> rfl) (G2.out.below (W2:=W2.drew) (by exact Rd.byB)).F ka hka h1000 ⟨ak,an⟩ hka' tk).mono ?_
   rintro e w3 ⟨rfl,H3,K3⟩;have i1':=K3.cell (c:=w.heap.size) (o:=1) (v:=.int .i64 ka) (by go_simp) (G.out.no (Nat.le_refl _))
   have i3':=K3.cell (c:=w.heap.size) (o:=3) (v:=.int .i64 kc) (by go_simp) (G.out.no (Nat.le_refl _))
   have i4':=K3.cell (c:=w.heap.size) (o:=4) (v:=.int .i64 kn) (by go_simp) (G.out.no (Nat.le_refl _))
   have h0':=H3.c0;rw [hvc'.out] at h0';have e2':=K3.cell (c:=cb) (o:=co+kc*2+1) (v:=.slice (some ⟨fb,fo,none⟩) nfl fcap) (by go_simp) ncb.out
   have t1':=K3.cell (c:=fb) (o:=fo+kn*2) (v:=.int .i64 tk) (by go_simp) nfb.out
   have y0':=K3.cell (c:=w1.heap.size) (o:=0) (v:=.int .i64 bk) (by go_simp) (G.out.no (by omega))
   have y1':=K3.cell (c:=w1.heap.size) (o:=1) (v:=.int .i64 bn) (by go_simp) (G.out.no (by omega))
   have G3:=Lib.hid ((G2.out.below (W2:=W2.drew) (by exact Rd.byB)).next K3 H3)
   have lw:=cell_lt y0';have lc:=cell_lt e2';have lf:=cell_lt t1';have lh:=cell_lt h0';have li:=cell_lt i1';clear H3 K3
   go_wp2_with fail
   refine Drawn.bk hK (hS:=by (try dsimp only);exact ⟨i1',i3',i4',h0',e2',t1'⟩) (h:=fun hHeld=>?_)
   clear hK K;refine Drawn.cl 21 (fun K hK=>?_);go_simp;refine Drawn.bk hK (h:=fun hHeld=>?_);clear hK K;refine Drawn.cl 22 (fun K hK=>?_);go_simp;refine Drawn.bk hK (h:=fun hHeld=>?_);clear hK K;refine dN ?_
   go_wp2_with fail
   go_meet
   exact ⟨_,rfl,Lib.hid (G3.out.below (by exact Rd.byB)),by go_simp,by go_simp,by go_simp,by go_simp,by first | omega | (simp;omega)⟩
  ·go_simp;refine Drawn.bk hK (h:=fun hHeld=>?_);clear hK K;refine Drawn.cl 20 (fun K hK=>?_);go_simp;have G2a:=Lib.hid (G2.out.below (W2:=World.alloc W2.drew (.cells #[.int .i64 0,.int .i64 0] 104)) (by exact Rd.byB))
   refine (readq (RH.below G2.out.H (by exact Rd.byB)) (by unfold rdS;split <;> rfl) (Fq.below G2.out.F (by exact Rd.byB)) ka hka h1000 ⟨ak,an⟩ hka' tk).mono ?_
   rintro e w3 ⟨rfl,H3,K3⟩;have i1':=K3.cell (c:=w.heap.size) (o:=1) (v:=.int .i64 ka) (by go_simp) (G.out.no (Nat.le_refl _))
   have i3':=K3.cell (c:=w.heap.size) (o:=3) (v:=.int .i64 kc) (by go_simp) (G.out.no (Nat.le_refl _))
   have i4':=K3.cell (c:=w.heap.size) (o:=4) (v:=.int .i64 kn) (by go_simp) (G.out.no (Nat.le_refl _))
   have h0':=H3.c0;rw [hvc'.out] at h0';have e2':=K3.cell (c:=cb) (o:=co+kc*2+1) (v:=.slice (some ⟨fb,fo,none⟩) nfl fcap) (by go_simp) ncb.out
   have t1':=K3.cell (c:=fb) (o:=fo+kn*2) (v:=.int .i64 tk) (by go_simp) nfb.out
   have y0':=K3.cell (c:=w1.heap.size) (o:=0) (v:=.int .i64 bk) (by go_simp) (G.out.no (by omega))
   have y1':=K3.cell (c:=w1.heap.size) (o:=1) (v:=.int .i64 bn) (by go_simp) (G.out.no (by omega))
   have z0':=K3.cell (c:=W2.heap.size) (o:=0) (v:=.int .i64 0) (by go_simp) (G.out.no (by omega))
   have z1':=K3.cell (c:=W2.heap.size) (o:=1) (v:=.int .i64 0) (by go_simp) (G.out.no (by omega))
   have zf0':=K3.frz (c:=W2.heap.size) (o:=0) (b:=false) (by go_simp) (by simp) (G.out.no (by omega))
   have zf1':=K3.frz (c:=W2.heap.size) (o:=1) (b:=false) (by go_simp) (by simp) (G.out.no (by omega))
   have G3:=Lib.hid ((G2.out.below (by exact Rd.byB)).next K3 H3)
   have lw:=cell_lt y0';have lc:=cell_lt e2';have lf:=cell_lt t1';have lh:=cell_lt h0';have li:=cell_lt i1';have lz:=cell_lt z0';have n1:w.heap.size≠W2.heap.size:=by omega
   have n2:E.hb≠W2.heap.size:=by omega
   have n3:cb≠W2.heap.size:=by omega
   have n4:fb≠W2.heap.size:=by omega
   have n5:w1.heap.size≠W2.heap.size:=by omega
   clear H3 K3
   go_wp2_with fail
   refine Drawn.bk hK (hS:=by (try dsimp only);exact ⟨i1',i3',i4',h0',e2',t1'⟩) (h:=fun hHeld=>?_)
   clear hK K;refine Drawn.cl 22 (fun K hK=>?_);go_simp;refine Drawn.bk hK (h:=fun hHeld=>?_);clear hK K;refine dN ?_
   go_wp2_with fail
   go_meet
   have G4:=Lib.hid ((G3.out.box (k:=W2.heap.size) (by omega) 0 (.int .i64 ak)).box (k:=W2.heap.size) (by omega) 1 (.int .i64 an))
   exact ⟨_,rfl,G4,by go_simp,by go_simp,by go_simp,by go_simp,by first | omega | (simp;omega)⟩
 case rest =>
  obtain ⟨b16,rfl,G3,y0',y1',z0,z1,hb16⟩:=hcut;clear y0 y1 G2 i0 i1 i2 i3 i4 i5 e2 t1 h0;have hwc:=G3.out.sz;have lz:=cell_lt z0;have ly':=cell_lt y0';obtain ⟨_,_,_,i0,i1,i2,i3,i4,i5,_,_,_,_⟩:=id G3.out;have s0':=G3.out.sz;have t0':=Nat.lt_add_one_of_lt s0';have hW':=G3.out.H.rows.base.2;have c12:=G3.out.H.c12
  by_cases qb:bk=3
  ·by_cases qa:ak=tk
   ·have es:rdS (rdS Sv.run bk 3) ak tk=Sv.run:=by rw [rd_run qb,rd_run qa]
    rw [es] at c12 G3;simp only [Sv.run] at c12;clear es qa qb
    go_wp2_with fail
    refine Drawn.hd (fun w'=>w'.cell? ⟨w1.heap.size,0,none⟩=some (.int .i64 bk)∧w'.cell? ⟨w1.heap.size,1,none⟩=some (.int .i64 bn)∧w'.cell? ⟨w.heap.size,3,none⟩=some (.int .i64 kc)∧w'.cell? ⟨w.heap.size,4,none⟩=some (.int .i64 kn)∧w'.cell? ⟨b16,0,none⟩=some (.int .i64 ak)∧w'.cell? ⟨b16,1,none⟩=some (.int .i64 an)) (h:=fun hHeld=>?_);refine dT 0 169 ?_;refine dT 1 170 ?_;refine dT 2 171 ?_;refine dT 3 172 ?_;refine dT 4 173 ?_;refine dT 5 174 ?_;refine dT 6 175 ?_;refine dT 7 176 ?_;refine dT 8 177 ?_;refine Drawn.cl 9 (fun K hK=>?_);go_simp;have G4:=Lib.hid (G3.out.below (W2:=wc.drew) (by exact Rd.byB))
    refine (HPUT.out _ G4.out.H).mono ?_;rintro e w4 hR;obtain ⟨rfl,R⟩:=rru_m hR;have K4:=rum_kp R;have u0:=K4.cell y0' (G.out.no (by omega))
    have u1:=K4.cell y1' (G.out.no (by omega))
    have u2:=K4.cell i3 (G.out.no (Nat.le_refl _));have u3:=K4.cell i4 (G.out.no (Nat.le_refl _));have u4:=K4.cell z0 (G.out.no hb16);have u5:=K4.cell z1 (G.out.no hb16);have R2:=Lib.hid R;clear hR R K4
    go_wp2_with fail
    refine Drawn.bk hK (hS:=by (try dsimp only);exact ⟨u0,u1,u2,u3,u4,u5⟩) (h:=fun hHeld=>?_)
    clear hK K;refine dN ?_
    go_wp2_with fail
    go_ret;rw [HR.out];exact G4.out.ofU R2.out
   ·have es:rdS (rdS Sv.run bk 3) ak tk=Sv.ends 6:=by rw [rd_run qb,rd_bad qa]
    rw [es] at c12 G3;simp only [Sv.ends] at c12;have ep:=Lib.hid (put_v (l:=E.f.classes) (r:=⟨bk,bn⟩) (c:=kc) (k:=kn) (h:=h) (show ¬ (⟨ak,an⟩:Vl).kind=(⟨tk,tc⟩:Ty).kind from qa));clear es qa qb
    go_wp2_with fail
    go_ret;rw [HR.out,ep.out];exact G3.out.ends _
  ·have es:rdS (rdS Sv.run bk 3) ak tk=Sv.ends 6:=by rw [rd_bad qb,rd_over]
   rw [es] at c12 G3;simp only [Sv.ends] at c12;have ep:=Lib.hid (put_r (l:=E.f.classes) (v:=⟨ak,an⟩) (t:=⟨tk,tc⟩) (c:=kc) (k:=kn) (h:=h) (show ¬ (⟨bk,bn⟩:Vl).kind=3 from qb));clear es qb
   go_wp2_with fail
   go_ret;rw [HR.out,ep.out];exact G3.out.ends _
end
end Rhq
end Go.Proofs.Ytncmhenfgbcihab
