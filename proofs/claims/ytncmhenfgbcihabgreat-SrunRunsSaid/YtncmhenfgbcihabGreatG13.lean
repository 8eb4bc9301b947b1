/- Parts of the proof: Pl, Pq, Pr, Pt1. -/
import Derived.Test.YtncmhenfgbcihabGreatG12
import Derived.Defers
import Derived.Recover
import Derived.Laws.Pointers
set_option linter.unusedSimpArgs false
set_option linter.unusedVariables false
set_option maxHeartbeats 8000000
namespace Go.Proofs.YtncmhenfgbcihabGreat
open Go.RowKit
namespace Hpw
open Num Rd D Run Mem HierW
section
variable {E:Ev}{w w' w1 w2:World}{L L' L1:Lay}{h h' h1 h2:Hp}{d:Nat}{P:PS}{m:Me}{fr fr' fr1:Sf}{vs vs1:Value}
theorem top_memP {l:List Vl}(h:l≠[]):top l∈l:=by
 unfold top
 rw [List.getLast?_eq_some_getLast h]
 exact List.getLast_mem h
theorem plain (FS:FiS E.f) (MS:MeS E.f m) (S:ST E w L P m d h fr vs) (HO:HpOk E.f.classes E.input E.fuel h) (hf:SfOk m h.objs.length fr) (hl:fr.stk.length≤40) (hfu:E.fuel≤60000) (hin:E.input.length≤1000) (i:Ins) (hi:InS E.f m i) (hop:i.op≠11∧i.op≠12∧i.op≠13∧i.op≠19∧i.op≠20∧i.op≠21) (aa:Option Addr) (an acap:Nat) :
  Calls Tryz.prog 110 #[.pointer (some ⟨P.cb,0,none⟩),.agg #[.int .i64 i.op,.int .i64 i.a,.int .i64 i.b,.int .i64 i.c,.int .i64 i.n,.slice aa an acap]] w (PlR E L P m d vs fr (.tuple #[]) w (oA (sstep E.f E.input m i fr h))):=by
 have hops:=hi.op
 have hlen:=hf.len
 have hloc:=MS.locals
 have hbig:fr.stk.length≤1000:=by omega
 have hmay:=FS.may
 have vo:∀ v∈fr.stk,VlOk h.objs.length v:=fun v hv=>(hf.stk v hv).1
 have v3:∀ v∈fr.stk,v.kind=3→v.n < h.objs.length:=fun v hv e=>((vo v hv).2.2.2 e).2
 have vd:∀ v∈fr.stk.dropLast,VlOk h.objs.length v:=fun v hv=>vo v (List.dropLast_subset _ hv)
 obtain ⟨op,a,b,c,n,args⟩:=i
 simp only at hop hops ⊢
 by_cases q1:op=1
 ·subst q1
  exact pl1 S hbig a b c n args aa an acap
 by_cases q2:op=2
 ·subst q2
  exact pl2 S hbig a b c n args aa an acap
 by_cases q3:op=3
 ·subst q3
  exact pl3 S hbig a b c n args aa an acap
 by_cases q4:op=4
 ·subst q4
  obtain ⟨hb,ha0,ha1⟩:=hi.slot (.inl rfl)
  simp only at hb ha0 ha1
  have hw:1≤Form.wide b:=by unfold Form.wide;split <;> omega
  by_cases hk:(fr.loc.getD a.toNat Vl.nil).kind=b
  ·exact pl4o S hbig a b c n args aa an acap ha0 (by omega) (by omega) hk
  ·exact pl4b S hbig a b c n args aa an acap ha0 (by omega) (by omega) hk
 by_cases q5:op=5
 ·subst q5
  obtain ⟨hb,ha0,ha1⟩:=hi.slot (.inr rfl)
  simp only at hb ha0 ha1
  by_cases hn:fr.stk=[]
  ·exact pl5n S hbig a b c n args aa an acap hn
  ·by_cases hk:(top fr.stk).kind=b
   ·refine pl5o S hbig a b c n args aa an acap hn hk ha0 ?_ hf.loc.pair (by omega)
    unfold Form.wide at ha1
    unfold width
    rw [hk]
    split at ha1 <;> split <;> omega
   ·exact pl5b S hbig a b c n args aa an acap hn hk
 by_cases q6:op=6
 ·subst q6
  by_cases hn:fr.stk=[]
  ·exact pl6n S hbig a b c n args aa an acap hn
  ·by_cases hn2:fr.stk.dropLast=[]
   ·exact pl6m S hbig a b c n args aa an acap hn hn2
   ·exact pl6o S hbig a b c n args aa an acap hn hn2 hmay (vd _ (top_memP hn2)).1
 by_cases q7:op=7
 ·subst q7
  by_cases hn:fr.stk=[]
  ·exact pl7n S hbig a b c n args aa an acap hn
  ·by_cases hn2:fr.stk.dropLast=[]
   ·exact pl7m S hbig a b c n args aa an acap hn hn2
   ·exact pl7o S hbig a b c n args aa an acap hn hn2 hmay (vd _ (top_memP hn2)).1
 by_cases q8:op=8
 ·subst q8
  by_cases hn:fr.stk=[]
  ·exact pl8n S hbig a b c n args aa an acap hn
  ·by_cases hk:(top fr.stk).kind=1
   ·exact pl8o S hbig a b c n args aa an acap hn hk
   ·exact pl8b S hbig a b c n args aa an acap hn hk
 by_cases q9:op=9
 ·subst q9
  by_cases hn:fr.stk=[]
  ·exact pl9n S hbig a b c n args aa an acap hn
  ·by_cases hk:(top fr.stk).kind=2
   ·exact pl9o S hbig a b c n args aa an acap hn hk
   ·exact pl9b S hbig a b c n args aa an acap hn hk
 by_cases q10:op=10
 ·subst q10
  by_cases hn:fr.stk=[]
  ·exact pl10n S hbig a b c n args aa an acap hn
  ·by_cases hk:(top fr.stk).kind=2
   ·by_cases hn2:fr.stk.dropLast=[]
    ·exact pl10m S hbig a b c n args aa an acap hn hk hn2
    ·by_cases hk2:(top fr.stk.dropLast).kind=2
     ·exact pl10o S hbig a b c n args aa an acap hn hk hn2 hk2
     ·exact pl10c S hbig a b c n args aa an acap hn hk hn2 hk2
   ·exact pl10b S hbig a b c n args aa an acap hn hk
 by_cases q14:op=14
 ·subst q14
  by_cases q100:100≤h.objs.length
  ·exact pl14f S hbig a b c n args aa an acap q100
  ·exact pl14o S hbig a b c n args aa an acap hmay (by omega)
 by_cases q15:op=15
 ·subst q15
  by_cases hn:fr.stk=[]
  ·exact pl15n S hbig a b c n args aa an acap hn
  ·exact pl15o S hbig a b c n args aa an acap hn hmay (v3 _ (top_memP hn))
 by_cases q17:op=17
 ·subst q17
  by_cases hn:fr.stk=[]
  ·exact pl17n S hbig a b c n args aa an acap hn
  ·exact pl17o S hbig a b c n args aa an acap hn hmay (v3 _ (top_memP hn))
 by_cases q18:op=18
 ·subst q18
  by_cases hn:fr.stk=[]
  ·exact pl18n S hbig a b c n args aa an acap hn
  ·exact pl18o S hbig a b c n args aa an acap hn hmay (v3 _ (top_memP hn))
 by_cases q16:op=16
 ·subst q16
  obtain ⟨hc0,hc1⟩:=hi.cls (.inr (.inr (.inl rfl)))
  obtain ⟨hf0,hf1⟩:=hi.fld (.inr rfl)
  simp only at hc0 hc1 hf0 hf1
  by_cases hn:fr.stk=[]
  ·exact pl16n S hbig a b c n args aa an acap hn
  ·by_cases hn2:fr.stk.dropLast=[]
   ·exact pl16m S hbig a b c n args aa an acap hn hn2
   ·by_cases hk:(top fr.stk.dropLast).kind=3
    ·exact pl16o S hbig a b c n args aa an acap hn hn2 hk hmay HO (vd _ (top_memP hn2)) (vo _ (top_memP hn)) ⟨hc0,hc1⟩ ⟨hf0,by unfold Form.nf at hf1;exact hf1⟩
    ·exact pl16b S hbig a b c n args aa an acap hn hn2 hk
 by_cases q22:op=22
 ·subst q22
  by_cases hn:fr.stk=[]
  ·exact pl22n S hbig a b c n args aa an acap hn
  ·exact pl22o S hbig a b c n args aa an acap hn
 by_cases q23:op=23
 ·subst q23
  by_cases hn:fr.stk=[]
  ·exact pl23n S hbig a b c n args aa an acap hn
  ·exact pl23o S hbig a b c n args aa an acap hn
 by_cases q24:op=24
 ·subst q24
  by_cases hn:fr.stk=[]
  ·exact pl24n S hbig a b c n args aa an acap hn
  ·exact pl24o S hbig a b c n args aa an acap hn (by have:=HO.outs;have:=HO.steps;omega)
 by_cases q25:op=25
 ·subst q25
  by_cases q25:E.input.length≤h.used
  ·exact pl25f S hbig a b c n args aa an acap q25
  ·exact pl25o S hbig a b c n args aa an acap hin (by omega)
 omega
end
end Hpw
namespace Hpw
open Num Rd D Run Mem HierW
section
variable {E:Ev}{w w' w1 w2:World}{L L' L1:Lay}{h h' h1 h2:Hp}{d:Nat}{P:PS}{m:Me}{fr fr' fr1:Sf}{vs vs1:Value}
theorem atP (S:ST E w L P m d h fr vs):Calls Tryz.prog 55 #[.pointer (some ⟨P.cb,0,none⟩)] w fun e w'=>e=.returned (.int .i64 fr.at_)∧w=w':=by
 have c11:=S.c11
 clear S
 go_enter Tryz.func55,Tryz.ntmps55
 go_wp2
 go_ret
 exact ⟨rfl,rfl⟩
theorem row_nil (w:World) (b:Nat):w.ownsRow b 46 2 (.slice none 0 0) ([]:List Vl).length (vcells []):=World.ownsRow_nil _ _ _ _
def CatchR (E:Ev) (L:Lay) (P:PS) (m:Me) (d:Nat) (vs:Value) (fr:Sf) (h:Hp) (a o:Nat) (w:World) (e:Ending) (w':World):Prop :=
 (1≤m.stack∧e=.returned (.tuple #[])∧LftF E L P m d vs w w' h ⟨fr.loc,[⟨3,o⟩],a⟩)∨(¬ 1≤m.stack∧e=pan (stopV 6)∧LftS E L P d vs w w' h)
theorem catchP (S:ST E w L P m d h fr vs) (a o:Nat):Calls Tryz.prog 56 #[.pointer (some ⟨P.cb,0,none⟩),.int .i64 a,.agg #[.int .i64 3,.int .i64 o]] w (CatchR E L P m d vs fr h a o w):=by
 have HS:=Lib.hid S
 have hcb:=S.cbw
 have c10:=S.c10
 have c11:=S.c11
 have f10:=S.fz 10 (by decide)
 have f11:=S.fz 11 (by decide)
 obtain ⟨va,vcap,hvs⟩:=row_any S.stk
 rw [hvs] at c10
 have hcb1:P.cb < w.heap.size+1:=by omega
 have A:=(S.setStack (w2:=w) (Kp.refl _ w) (row_nil w E.B) (fun _ e=>by simp [Value.ownBlock] at e)).trans (fun L1 vs1 S1 N1=>S1.setAt a)
 have HA:=Lib.hid A
 clear S A hvs
 go_enter Tryz.func56,Tryz.ntmps56
 go_wp2_with fail
 obtain ⟨L2,v2,G2,S2⟩:=HA.out.opn
 refine (put (S2.below (by exact Rd.byB)) ⟨3,o⟩ (by simp)).mono ?_
 rintro e w9 (⟨q,rfl,A⟩ | ⟨q,rfl,A⟩)
 ·go_wp2_with fail
  go_end0
  simp only [List.nil_append,size,width] at q
  exact .inl ⟨by simpa using q,rfl,(G2.trans (Gr.of_below (by exact Rd.byB))).comp A⟩
 ·unfold pan
  refine And.intro rfl ?_
  simp only [List.nil_append,size,width] at q
  exact .inr ⟨by simpa using q,rfl,(G2.trans (Gr.of_below (by exact Rd.byB))).compS A⟩
end
end Hpw
namespace Hpw
open Num Rd D Run Mem HierW
def DoR (E:Ev) (L:Lay) (P:PS) (m:Me) (d:Nat) (vs:Value) (fr:Sf) (w:World) (a:Out Sf) (e:Ending) (w':World):Prop:=match a with
 | .go fr' h=>e=.returned (.tuple #[.agg #[.int .i64 0,.int .i64 0],.bool false])∧LftF E L P m d vs w w' h fr'
 | .back v h=>e=.returned (.tuple #[.agg #[.int .i64 v.kind,.int .i64 v.n],.bool true])∧∃ st,LftF E L P m d vs w w' h ⟨fr.loc,st,fr.at_⟩
 | .thrown o h=>Pan (thrownV o) e∧∃ st,LftF E L P m d vs w w' h ⟨fr.loc,st,fr.at_⟩
 | .stop c h=>Pan (stopV c) e∧LftS E L P d vs w w' h
def CloR (E:Ev) (L:Lay) (P:PS) (m:Me) (d:Nat) (vs:Value) (fr:Sf) (b12 b13:Nat) (w:World) (a:Out Sf) (e:Ending) (w':World):Prop:=match a with
 | .go fr' h=>e=.returned (.tuple #[])∧w'.cell? ⟨b12,0,none⟩=some (.bool false)∧∃ wd,LftF E L P m d vs w wd h fr'∧Kp (fun k=>k=b12∨k=b13) wd w'
 | .back v h=>e=.returned (.tuple #[])∧w'.cell? ⟨b12,0,none⟩=some (.bool true)∧w'.cell? ⟨b13,0,none⟩=some (.int .i64 v.kind)∧w'.cell? ⟨b13,1,none⟩=some (.int .i64 v.n)∧∃ wd st,LftF E L P m d vs w wd h ⟨fr.loc,st,fr.at_⟩∧Kp (fun k=>k=b12∨k=b13) wd w'
 | .thrown o h=>Pan (thrownV o) e∧w'.cell? ⟨b12,0,none⟩=some (.bool false)∧∃ st,LftF E L P m d vs w w' h ⟨fr.loc,st,fr.at_⟩
 | .stop c h=>Pan (stopV c) e∧LftS E L P d vs w w' h
section
variable {E:Ev}{w w' w0 w1 w2:World}{L L' L1:Lay}{h h' h1 h2:Hp}{d:Nat}{P:PS}{m:Me}{fr fr' fr1:Sf}{vs vs1:Value}
theorem LftF.upon (S:ST E w0 L P m d h' fr' vs) (hb:Below w0.heap.size w0 w) (A:LftF E L P m d vs w w1 h fr){X:Nat→Prop}(K:Kp X w1 w2) (hX:∀ k,X k→w0.heap.size≤k∧k < w.heap.size):LftF E L P m d vs w0 w2 h fr:=by
 obtain ⟨L1,vs1,G,S1⟩:=A.opn
 have hs:=hb.size
 have hEB:=S.base
 have lo:∀ k,fo E L P vs k→k < w0.heap.size:=fun k hk=>(S.fo_lo hk).2
 have nf:∀ k,X k→¬ fo E L1 P vs1 k:=fun k hk hf=>by
  obtain ⟨x1,x2⟩:=hX k hk
  rcases G.fo hf with q | q
  ·have:=lo k q;omega
  ·omega
 have K0:Kp (fo E L P vs) w0 w2:=((Kp.of_below (X:=fo E L P vs) hb (Nat.le_refl _)).trans G.kp (fun y hy=>.inl hy)).trans K (fun y hy=>.inr (hX y hy).1)
 refine ⟨L1,vs1,K0,fun k hk=>(G.ow k hk).imp id (fun q=>by omega),fun k hk=>(G.st k hk).imp id (fun q=>by omega),?_⟩
 have no:∀ k,fo E L1 P vs1 k→¬ X k:=fun k hk hx=>nf k hx hk
 exact ⟨S1.H.keep K (fun k hk=>⟨by have:=(hX k hk).1;omega,fun q=>nf k hk (.inl q)⟩),S1.M.mono (K.below S1.base (fun k hk=>by have:=(hX k hk).1;omega)),S1.blk.next K (no _ (.inr (.inl rfl))),S1.loc.next K (no _ (.inr (.inr (.inl rfl)))),Nat.lt_of_lt_of_le S1.lbw K.size,row_keep S1.stk K (fun g hg=>no g (.inr (.inr (.inr hg)))),S1.lo,S1.far,S1.ne⟩
theorem LftS.upon (S:ST E w0 L P m d h' fr' vs) (hb:Below w0.heap.size w0 w) (A:LftS E L P d vs w w1 h){X:Nat→Prop}(K:Kp X w1 w2) (hX:∀ k,X k→w0.heap.size≤k∧k < w.heap.size):LftS E L P d vs w0 w2 h:=by
 obtain ⟨L1,K1,N1,H1⟩:=A
 have hs:=hb.size
 have hEB:=S.base
 have nf:∀ k,X k→¬ own E L1 k:=fun k hk hf=>by
  obtain ⟨x1,x2⟩:=hX k hk
  rcases N1 k hf with q | q
  ·have:=(own_lo S.H q).2;omega
  ·omega
 exact ⟨L1,((Kp.of_below (X:=fo E L P vs) hb (Nat.le_refl _)).trans K1 (fun y hy=>.inl hy)).trans K (fun y hy=>.inr (hX y hy).1),fun k hk=>(N1 k hk).imp id (fun q=>by omega),H1.keep K (fun k hk=>⟨by have:=(hX k hk).1;omega,nf k hk⟩)⟩
def frV (b:Nat):Value:=.agg #[.func (.func 54) #[.pointer (some ⟨b,0,none⟩)] #[],.func (.func 55) #[.pointer (some ⟨b,0,none⟩)] #[],.func (.func 56) #[.pointer (some ⟨b,0,none⟩)] #[]]
theorem cloP {b11 b12 b13:Nat}(n12:¬ fo E L P vs b12) (n13:¬ fo E L P vs b13) (h12:b12 < w.heap.size) (h13:b13 < w.heap.size) (hne:b12≠b13)
  (c11:w.cell? ⟨b11,0,none⟩=some (.func (.func 54) #[.pointer (some ⟨P.cb,0,none⟩)] #[])) (c12:w.cell? ⟨b12,0,none⟩=some (.bool false)) (f12:w.frozen? ⟨b12,0,none⟩=false) (c130:w.cell? ⟨b13,0,none⟩=some (.int .i64 0)) (c131:w.cell? ⟨b13,1,none⟩=some (.int .i64 0)) (f130:w.frozen? ⟨b13,0,none⟩=false) (f131:w.frozen? ⟨b13,1,none⟩=false)
  (a:Out Sf) (hdo:Calls Tryz.prog 54 #[.pointer (some ⟨P.cb,0,none⟩)] w (DoR E L P m d vs fr w a)) :
  Calls Tryz.prog 101 #[.pointer (some ⟨b11,0,none⟩),.pointer (some ⟨b13,0,none⟩),.pointer (some ⟨b12,0,none⟩)] w (CloR E L P m d vs fr b12 b13 w a):=by
 have hne2:=hne.symm
 go_enter Tryz.func101,Tryz.ntmps101
 go_wp2_with fail
 refine hdo.mono ?_
 rintro e w2 R
 cases a with
 | go fr' h' =>
  obtain ⟨rfl,A⟩:=R
  have y1:=A.box c12 n12
  have y2:=A.boxf f12 h12 n12
  have y3:=A.box c130 n13
  have y4:=A.box c131 n13
  have y5:=A.boxf f130 h13 n13
  have y6:=A.boxf f131 h13 n13
  replace A:=Lib.hid A
  go_wp2_with fail
  go_end0
  refine ⟨rfl,by go_simp,w2,A.out,(((Kp.refl _ w2).setCell (p:=⟨b13,0,none⟩) (.inl (.inr rfl)) _).setCell (p:=⟨b13,1,none⟩) (.inl (.inr rfl)) _).setCell (p:=⟨b12,0,none⟩) (.inl (.inl rfl)) _⟩
 | back v h' =>
  obtain ⟨vk,vn⟩:=v
  obtain ⟨rfl,st,A⟩:=R
  have y1:=A.box c12 n12
  have y2:=A.boxf f12 h12 n12
  have y3:=A.box c130 n13
  have y4:=A.box c131 n13
  have y5:=A.boxf f130 h13 n13
  have y6:=A.boxf f131 h13 n13
  replace A:=Lib.hid A
  go_wp2_with fail
  go_end0
  refine ⟨rfl,by go_simp,by go_simp,by go_simp,w2,st,A.out,(((Kp.refl _ w2).setCell (p:=⟨b13,0,none⟩) (.inl (.inr rfl)) _).setCell (p:=⟨b13,1,none⟩) (.inl (.inr rfl)) _).setCell (p:=⟨b12,0,none⟩) (.inl (.inl rfl)) _⟩
 | thrown o h' =>
  obtain ⟨⟨older,hol,rfl⟩,st,A⟩:=R
  have y1:=A.box c12 n12
  refine And.intro rfl ?_
  exact ⟨⟨older,hol,rfl⟩,y1,st,A⟩
 | stop c h' =>
  obtain ⟨⟨older,hol,rfl⟩,A⟩:=R
  refine And.intro rfl ?_
  exact ⟨⟨older,hol,rfl⟩,A⟩
end
end Hpw
namespace Hpw
open Num Rd D Run Mem HierW
section
variable {E:Ev}{w w' w1 w2:World}{L L' L1:Lay}{h h' h1 h2:Hp}{d:Nat}{P:PS}{m:Me}{fr fr' fr1:Sf}{vs vs1:Value}
theorem Gr.upon (S0:ST E w L P m d h' fr' vs) (G:Gr E L P vs w L1 vs1 w1) (S1:ST E w1 L1 P m d h fr vs1){b:Nat}(h1:w.heap.size≤b) (nf:¬ Hpw.fo E L1 P vs1 b) (x y:Value):LftF E L P m d vs w ((w1.setCell ⟨b,0,none⟩ x).setCell ⟨b,1,none⟩ y) h fr:=by
 have hB:=S0.base
 exact ⟨L1,vs1,(G.kp.setCell (p:=⟨b,0,none⟩) (.inr h1) x).setCell (p:=⟨b,1,none⟩) (.inr h1) y,G.ow,G.st,(S1.res (by omega) nf 0 x).res (by omega) nf 1 y⟩
theorem throw_no {l:List Cls}{v:Vl}{h h2:Hp}{u:Unit}(hr:(Run.throw l v h:Res Unit)=.ok u h2):False:=by
 unfold Run.throw raise new at hr
 split at hr
 ·cases hr
 ·split at hr
  ·split at hr <;> cases hr
  ·cases hr
set_option maxRecDepth 100000 in
theorem do11 (S:ST E w L P m d h fr vs) (hbig:fr.stk.length≤1000) (hatb:fr.at_≤100000) (hs:h.steps < E.fuel) (hfu:E.fuel≤60000) (a b c n:Int) (args:List Int) (hi:m.code[fr.at_]? = some ⟨11,a,b,c,n,args⟩) (ha:0≤a) :
  Calls Tryz.prog 54 #[.pointer (some ⟨P.cb,0,none⟩)] w (DoR E L P m d vs fr w (.go ⟨fr.loc,fr.stk,a.toNat⟩ (stepped h))):=by
 obtain ⟨a,rfl⟩:=Int.eq_ofNat_of_zero_le ha
 have HS:=Lib.hid S
 have hcb:=S.cbw
 have hat:fr.at_ < m.code.length:=(List.getElem?_eq_some_iff.1 hi).1
 obtain ⟨ica,icap,hvc,i1,i2,iel⟩:=id S.M.co
 obtain ⟨ib,io,rfl,hib,hie⟩:=iel fr.at_ hat
 have hx:m.code[fr.at_]=⟨11,a,b,c,n,args⟩:=by rw [List.getElem?_eq_getElem hat] at hi;exact Option.some.inj hi
 rw [hx] at hie
 obtain ⟨x0,x1,x2,x3,x4,_,va,x5,hva⟩:=hie
 obtain ⟨aa,acap,rfl,_⟩:=hva
 simp only at x0 x1 x2 x3 x4
 have c7:=S.c7
 rw [hvc] at c7
 have c0:=S.c0
 have c11:=S.c11
 have nr:=S.fo_new (Nat.le_refl _)
 have nrO:¬ own E L w.heap.size:=fun hk=>nr (.inl hk)
 have nib:¬ fo E L P vs ib:=fun hk=>by have:=(S.fo_lo hk).1;omega
 have nibO:¬ own E L ib:=fun hk=>nib (.inl hk)
 have hibw:ib < w.heap.size:=by have:=S.base;omega
 have hati:(fr.at_:Int) < m.code.length:=by omega
 have hatd:decide ((fr.at_:Int) < m.code.length)=true:=by simpa using hati
 have hwr:IntKind.i64.wrap ((fr.at_:Int)+1)=(fr.at_:Int)+1:=by rw [Num.wrap_i64,wrap64_id (by unfold Ok;omega)]
 have HCO:=Lib.hid hvc
 clear S iel hi hx hvc i1
 go_enter Tryz.func54,Tryz.ntmps54
 go_wp2_with (go_at_call 104;refine (stepOk (HS.out.below (by exact Rd.byB)).H hs hfu).mono ?_;rintro e w2 ⟨rfl,H2,K2⟩;have S2:=(HS.out.below (w':=w.alloc (.cells #[.int .i64 0,.int .i64 0] 46)) (by exact Rd.byB)).heap K2 same_own H2;have r0:=K2.cell (c:=w.heap.size) (o:=0) (v:=.int .i64 0) (by go_simp) nrO;have r1:=K2.cell (c:=w.heap.size) (o:=1) (v:=.int .i64 0) (by go_simp) nrO;have rf0:=K2.frz (c:=w.heap.size) (o:=0) (b:=false) (by go_simp) (by simp) nrO;have rf1:=K2.frz (c:=w.heap.size) (o:=1) (b:=false) (by go_simp) (by simp) nrO;have z0:=S2.c0;have z11:=S2.c11;have z7:=S2.c7;rw [HCO.out] at z7;have u0:=K2.cell (c:=ib) (o:=io+fr.at_*6) (v:=.int .i64 (11)) (by go_simp) nibO;have u1:=K2.cell (c:=ib) (o:=io+fr.at_*6+1) (v:=.int .i64 a) (by go_simp) nibO;have u2:=K2.cell (c:=ib) (o:=io+fr.at_*6+2) (v:=.int .i64 b) (by go_simp) nibO;have u3:=K2.cell (c:=ib) (o:=io+fr.at_*6+3) (v:=.int .i64 c) (by go_simp) nibO;have u4:=K2.cell (c:=ib) (o:=io+fr.at_*6+4) (v:=.int .i64 n) (by go_simp) nibO;have u5:=K2.cell (c:=ib) (o:=io+fr.at_*6+5) (v:=.slice aa args.length acap) (by go_simp) nibO;have GW:=Lib.hid (show Gr E L P vs w L vs w2 from ⟨(Kp.of_below (B:=w.heap.size) (X:=fo E L P vs) (w':=w.alloc (.cells #[.int .i64 0,.int .i64 0] 46)) (by exact Rd.byB) (Nat.le_refl _)).trans K2 (fun y hy=>.inl (.inl hy)),fun _ q=>.inl q,fun _ q=>.inl q⟩);have nf2:=S2.fo_new (Nat.le_refl _);have hcb2:=S2.cbw;have hrw:=cell_lt r0;have hib2:=cell_lt u0;replace S2:=Lib.hid S2;clear H2 K2 c7 c0 c11 x0 x1 x2 x3 x4 x5)
 refine Drawn.hd (fun w'=>w'.cell? ⟨P.cb,11,none⟩=some (.int .i64 fr.at_)∧w'.cell? ⟨P.cb,7,none⟩=some (.slice (some ⟨ib,io,none⟩) m.code.length icap)) (h:=fun hHeld=>?_)
 refine Drawn.T 0 (some 12) (h:=?_)
 refine Drawn.T 1 (some 13) (h:=?_)
 refine Drawn.T 2 (some 14) (h:=?_)
 refine Drawn.T 3 (some 15) (h:=?_)
 refine Drawn.T 4 (some 16) (h:=?_)
 refine Drawn.T 5 (some 17) (h:=?_)
 refine Drawn.T 6 (some 18) (h:=?_)
 refine Drawn.T 7 (some 19) (h:=?_)
 refine Drawn.T 8 (some 20) (h:=?_)
 refine Drawn.T 9 (some 21) (h:=?_)
 refine Drawn.T 10 (some 22) (h:=?_)
 refine Drawn.cl 11 (fun K hK=>?_)
 go_simp
 refine (mustT _).mono ?_
 rintro e w3 ⟨rfl,rfl⟩
 go_wp2_with fail
 refine Drawn.bk hK (h:=fun hHeld=>?_)
 clear hK K
 refine wpAnyH_done (by kernel_rfl) ?_ _
 go_wp2_with fail
 refine Drawn.hd (fun w'=>w'.cell? ⟨P.cb,11,none⟩=some (.int .i64 fr.at_)∧w'.cell? ⟨P.cb,7,none⟩=some (.slice (some ⟨ib,io,none⟩) m.code.length icap)∧w'.cell? ⟨ib,io+fr.at_*6,none⟩=some (.int .i64 11)∧w'.cell? ⟨ib,io+fr.at_*6+1,none⟩=some (.int .i64 a)∧w'.cell? ⟨ib,io+fr.at_*6+2,none⟩=some (.int .i64 b)∧w'.cell? ⟨ib,io+fr.at_*6+3,none⟩=some (.int .i64 c)∧w'.cell? ⟨ib,io+fr.at_*6+4,none⟩=some (.int .i64 n)∧w'.cell? ⟨ib,io+fr.at_*6+5,none⟩=some (.slice aa args.length acap)) (h:=fun hHeld=>?_)
 refine Drawn.T 0 (some 24) (h:=?_)
 refine Drawn.T 1 (some 25) (h:=?_)
 refine Drawn.T 2 (some 26) (h:=?_)
 refine Drawn.T 3 (some 27) (h:=?_)
 refine Drawn.T 4 (some 28) (h:=?_)
 refine Drawn.T 5 (some 29) (h:=?_)
 refine Drawn.T 6 (some 30) (h:=?_)
 refine Drawn.T 7 (some 31) (h:=?_)
 refine Drawn.T 8 (some 32) (h:=?_)
 refine Drawn.T 9 (some 33) (h:=?_)
 refine Drawn.T 10 (some 34) (h:=?_)
 refine Drawn.cl 11 (fun K hK=>?_)
 go_simp
 refine Drawn.bk hK (h:=fun hHeld=>?_)
 clear hK K
 refine Drawn.cl 12 (fun K hK=>?_)
 go_simp
 refine Drawn.bk hK (h:=fun hHeld=>?_)
 clear hK K
 refine wpAnyH_done (by kernel_rfl) ?_ _
 generalize hWW:World.drew _=W
 replace hWW:=Lib.hid hWW
 have k0:W.cell? ⟨w2.heap.size,0,none⟩=some (.int .i64 (11)):=by rw [← hWW.out];go_simp
 have k1:W.cell? ⟨w2.heap.size,1,none⟩=some (.int .i64 a):=by rw [← hWW.out];go_simp
 have k2:W.cell? ⟨w2.heap.size,2,none⟩=some (.int .i64 b):=by rw [← hWW.out];go_simp
 have k3:W.cell? ⟨w2.heap.size,3,none⟩=some (.int .i64 c):=by rw [← hWW.out];go_simp
 have k4:W.cell? ⟨w2.heap.size,4,none⟩=some (.int .i64 n):=by rw [← hWW.out];go_simp
 have k5:W.cell? ⟨w2.heap.size,5,none⟩=some (.slice aa args.length acap):=by rw [← hWW.out];go_simp
 have hbW:Below w2.heap.size w2 W:=by rw [← hWW.out];exact Rd.byB
 have hzW:w2.heap.size < W.heap.size:=cell_lt k0
 have SW:=S2.out.below hbW
 have s0:=kept hbW hrw r0
 have s1:=kept hbW hrw r1
 have sf0:=frz_kept hbW hrw rf0
 have sf1:=frz_kept hbW hrw rf1
 have e0:=SW.c0
 have e11:=SW.c11
 have ef11:=SW.fz 11 (by decide)
 have hcbW:=SW.cbw
 have hrW:w.heap.size < W.heap.size:=by omega
 have G:=Lib.hid (GW.out.trans (Gr.of_below hbW))
 replace SW:=Lib.hid SW
 clear hWW r0 r1 rf0 rf1 z0 z11 z7 u0 u1 u2 u3 u4 u5 GW hbW S2
 go_wp2_with fail
 refine bodyPost_ret (v:=.tuple #[.agg #[.int .i64 0,.int .i64 0],.bool false]) (by simp [results,Tryz.results54,go_sem] <;> go_simp) rfl ?_
 obtain ⟨L8,v8,G8,S8⟩:=(SW.out.setAt a).opn
 exact ⟨rfl,Gr.upon HS.out (G.out.trans G8) S8 (Nat.le_refl _) (G8.nf hrW nr) _ _⟩
set_option maxRecDepth 100000 in
theorem do12n (S:ST E w L P m d h fr vs) (hbig:fr.stk.length≤1000) (hatb:fr.at_≤100000) (hs:h.steps < E.fuel) (hfu:E.fuel≤60000) (a b c n:Int) (args:List Int) (hi:m.code[fr.at_]? = some ⟨12,a,b,c,n,args⟩) (hn:fr.stk=[]) :
  Calls Tryz.prog 54 #[.pointer (some ⟨P.cb,0,none⟩)] w (DoR E L P m d vs fr w (.stop 6 (stepped h))):=by
 have HS:=Lib.hid S
 have hcb:=S.cbw
 have hat:fr.at_ < m.code.length:=(List.getElem?_eq_some_iff.1 hi).1
 obtain ⟨ica,icap,hvc,i1,i2,iel⟩:=id S.M.co
 obtain ⟨ib,io,rfl,hib,hie⟩:=iel fr.at_ hat
 have hx:m.code[fr.at_]=⟨12,a,b,c,n,args⟩:=by rw [List.getElem?_eq_getElem hat] at hi;exact Option.some.inj hi
 rw [hx] at hie
 obtain ⟨x0,x1,x2,x3,x4,_,va,x5,hva⟩:=hie
 obtain ⟨aa,acap,rfl,_⟩:=hva
 simp only at x0 x1 x2 x3 x4
 have c7:=S.c7
 rw [hvc] at c7
 have c0:=S.c0
 have c11:=S.c11
 have nr:=S.fo_new (Nat.le_refl _)
 have nrO:¬ own E L w.heap.size:=fun hk=>nr (.inl hk)
 have nib:¬ fo E L P vs ib:=fun hk=>by have:=(S.fo_lo hk).1;omega
 have nibO:¬ own E L ib:=fun hk=>nib (.inl hk)
 have hibw:ib < w.heap.size:=by have:=S.base;omega
 have hati:(fr.at_:Int) < m.code.length:=by omega
 have hatd:decide ((fr.at_:Int) < m.code.length)=true:=by simpa using hati
 have hwr:IntKind.i64.wrap ((fr.at_:Int)+1)=(fr.at_:Int)+1:=by rw [Num.wrap_i64,wrap64_id (by unfold Ok;omega)]
 have HCO:=Lib.hid hvc
 clear S iel hi hx hvc i1
 go_enter Tryz.func54,Tryz.ntmps54
 go_wp2_with (go_at_call 104;refine (stepOk (HS.out.below (by exact Rd.byB)).H hs hfu).mono ?_;rintro e w2 ⟨rfl,H2,K2⟩;have S2:=(HS.out.below (w':=w.alloc (.cells #[.int .i64 0,.int .i64 0] 46)) (by exact Rd.byB)).heap K2 same_own H2;have r0:=K2.cell (c:=w.heap.size) (o:=0) (v:=.int .i64 0) (by go_simp) nrO;have r1:=K2.cell (c:=w.heap.size) (o:=1) (v:=.int .i64 0) (by go_simp) nrO;have rf0:=K2.frz (c:=w.heap.size) (o:=0) (b:=false) (by go_simp) (by simp) nrO;have rf1:=K2.frz (c:=w.heap.size) (o:=1) (b:=false) (by go_simp) (by simp) nrO;have z0:=S2.c0;have z11:=S2.c11;have z7:=S2.c7;rw [HCO.out] at z7;have u0:=K2.cell (c:=ib) (o:=io+fr.at_*6) (v:=.int .i64 (12)) (by go_simp) nibO;have u1:=K2.cell (c:=ib) (o:=io+fr.at_*6+1) (v:=.int .i64 a) (by go_simp) nibO;have u2:=K2.cell (c:=ib) (o:=io+fr.at_*6+2) (v:=.int .i64 b) (by go_simp) nibO;have u3:=K2.cell (c:=ib) (o:=io+fr.at_*6+3) (v:=.int .i64 c) (by go_simp) nibO;have u4:=K2.cell (c:=ib) (o:=io+fr.at_*6+4) (v:=.int .i64 n) (by go_simp) nibO;have u5:=K2.cell (c:=ib) (o:=io+fr.at_*6+5) (v:=.slice aa args.length acap) (by go_simp) nibO;have GW:=Lib.hid (show Gr E L P vs w L vs w2 from ⟨(Kp.of_below (B:=w.heap.size) (X:=fo E L P vs) (w':=w.alloc (.cells #[.int .i64 0,.int .i64 0] 46)) (by exact Rd.byB) (Nat.le_refl _)).trans K2 (fun y hy=>.inl (.inl hy)),fun _ q=>.inl q,fun _ q=>.inl q⟩);have nf2:=S2.fo_new (Nat.le_refl _);have hcb2:=S2.cbw;have hrw:=cell_lt r0;have hib2:=cell_lt u0;replace S2:=Lib.hid S2;clear H2 K2 c7 c0 c11 x0 x1 x2 x3 x4 x5)
 refine Drawn.hd (fun w'=>w'.cell? ⟨P.cb,11,none⟩=some (.int .i64 fr.at_)∧w'.cell? ⟨P.cb,7,none⟩=some (.slice (some ⟨ib,io,none⟩) m.code.length icap)) (h:=fun hHeld=>?_)
 refine Drawn.T 0 (some 12) (h:=?_)
 refine Drawn.T 1 (some 13) (h:=?_)
 refine Drawn.T 2 (some 14) (h:=?_)
 refine Drawn.T 3 (some 15) (h:=?_)
 refine Drawn.T 4 (some 16) (h:=?_)
 refine Drawn.T 5 (some 17) (h:=?_)
 refine Drawn.T 6 (some 18) (h:=?_)
 refine Drawn.T 7 (some 19) (h:=?_)
 refine Drawn.T 8 (some 20) (h:=?_)
 refine Drawn.T 9 (some 21) (h:=?_)
 refine Drawn.T 10 (some 22) (h:=?_)
 refine Drawn.cl 11 (fun K hK=>?_)
 go_simp
 refine (mustT _).mono ?_
 rintro e w3 ⟨rfl,rfl⟩
 go_wp2_with fail
 refine Drawn.bk hK (h:=fun hHeld=>?_)
 clear hK K
 refine wpAnyH_done (by kernel_rfl) ?_ _
 go_wp2_with fail
 refine Drawn.hd (fun w'=>w'.cell? ⟨P.cb,11,none⟩=some (.int .i64 fr.at_)∧w'.cell? ⟨P.cb,7,none⟩=some (.slice (some ⟨ib,io,none⟩) m.code.length icap)∧w'.cell? ⟨ib,io+fr.at_*6,none⟩=some (.int .i64 12)∧w'.cell? ⟨ib,io+fr.at_*6+1,none⟩=some (.int .i64 a)∧w'.cell? ⟨ib,io+fr.at_*6+2,none⟩=some (.int .i64 b)∧w'.cell? ⟨ib,io+fr.at_*6+3,none⟩=some (.int .i64 c)∧w'.cell? ⟨ib,io+fr.at_*6+4,none⟩=some (.int .i64 n)∧w'.cell? ⟨ib,io+fr.at_*6+5,none⟩=some (.slice aa args.length acap)) (h:=fun hHeld=>?_)
 refine Drawn.T 0 (some 24) (h:=?_)
 refine Drawn.T 1 (some 25) (h:=?_)
 refine Drawn.T 2 (some 26) (h:=?_)
 refine Drawn.T 3 (some 27) (h:=?_)
 refine Drawn.T 4 (some 28) (h:=?_)
 refine Drawn.T 5 (some 29) (h:=?_)
 refine Drawn.T 6 (some 30) (h:=?_)
 refine Drawn.T 7 (some 31) (h:=?_)
 refine Drawn.T 8 (some 32) (h:=?_)
 refine Drawn.T 9 (some 33) (h:=?_)
 refine Drawn.T 10 (some 34) (h:=?_)
 refine Drawn.cl 11 (fun K hK=>?_)
 go_simp
 refine Drawn.bk hK (h:=fun hHeld=>?_)
 clear hK K
 refine Drawn.cl 12 (fun K hK=>?_)
 go_simp
 refine Drawn.bk hK (h:=fun hHeld=>?_)
 clear hK K
 refine wpAnyH_done (by kernel_rfl) ?_ _
 generalize hWW:World.drew _=W
 replace hWW:=Lib.hid hWW
 have k0:W.cell? ⟨w2.heap.size,0,none⟩=some (.int .i64 (12)):=by rw [← hWW.out];go_simp
 have k1:W.cell? ⟨w2.heap.size,1,none⟩=some (.int .i64 a):=by rw [← hWW.out];go_simp
 have k2:W.cell? ⟨w2.heap.size,2,none⟩=some (.int .i64 b):=by rw [← hWW.out];go_simp
 have k3:W.cell? ⟨w2.heap.size,3,none⟩=some (.int .i64 c):=by rw [← hWW.out];go_simp
 have k4:W.cell? ⟨w2.heap.size,4,none⟩=some (.int .i64 n):=by rw [← hWW.out];go_simp
 have k5:W.cell? ⟨w2.heap.size,5,none⟩=some (.slice aa args.length acap):=by rw [← hWW.out];go_simp
 have hbW:Below w2.heap.size w2 W:=by rw [← hWW.out];exact Rd.byB
 have hzW:w2.heap.size < W.heap.size:=cell_lt k0
 have SW:=S2.out.below hbW
 have s0:=kept hbW hrw r0
 have s1:=kept hbW hrw r1
 have sf0:=frz_kept hbW hrw rf0
 have sf1:=frz_kept hbW hrw rf1
 have e0:=SW.c0
 have e11:=SW.c11
 have ef11:=SW.fz 11 (by decide)
 have hcbW:=SW.cbw
 have hrW:w.heap.size < W.heap.size:=by omega
 have G:=Lib.hid (GW.out.trans (Gr.of_below hbW))
 replace SW:=Lib.hid SW
 clear hWW r0 r1 rf0 rf1 z0 z11 z7 u0 u1 u2 u3 u4 u5 GW hbW S2
 go_wp2_with fail
 refine Drawn.hd (fun w'=>w'.cell? ⟨w2.heap.size,2,none⟩=some (.int .i64 b)) (h:=fun hHeld=>?_)
 refine Drawn.T 0 (some 76) (h:=?_)
 refine Drawn.T 1 (some 77) (h:=?_)
 refine Drawn.T 2 (some 78) (h:=?_)
 refine Drawn.cl 3 (fun K hK=>?_)
 go_simp
 go_at_call 107
 refine (takeNo (SW.out.below (by exact Rd.byB)) hn _).mono ?_
 rintro e w4 ⟨rfl,hb4⟩
 have HB4:Below W.heap.size W w4:=Below.trans (by exact Rd.byB) (hb4.mono Rd.byL)
 unfold pan
 refine And.intro rfl ?_
 exact ⟨Pan.one _,((G.out.trans (Gr.of_below HB4)).lft (SW.out.below HB4)).stop⟩
set_option maxRecDepth 100000 in
theorem do12b (S:ST E w L P m d h fr vs) (hbig:fr.stk.length≤1000) (hatb:fr.at_≤100000) (hs:h.steps < E.fuel) (hfu:E.fuel≤60000) (a b c n:Int) (args:List Int) (hi:m.code[fr.at_]? = some ⟨12,a,b,c,n,args⟩) (hn:fr.stk≠[]) (hk:(top fr.stk).kind≠1) :
  Calls Tryz.prog 54 #[.pointer (some ⟨P.cb,0,none⟩)] w (DoR E L P m d vs fr w (.stop 6 (stepped h))):=by
 have HS:=Lib.hid S
 have hcb:=S.cbw
 have hat:fr.at_ < m.code.length:=(List.getElem?_eq_some_iff.1 hi).1
 obtain ⟨ica,icap,hvc,i1,i2,iel⟩:=id S.M.co
 obtain ⟨ib,io,rfl,hib,hie⟩:=iel fr.at_ hat
 have hx:m.code[fr.at_]=⟨12,a,b,c,n,args⟩:=by rw [List.getElem?_eq_getElem hat] at hi;exact Option.some.inj hi
 rw [hx] at hie
 obtain ⟨x0,x1,x2,x3,x4,_,va,x5,hva⟩:=hie
 obtain ⟨aa,acap,rfl,_⟩:=hva
 simp only at x0 x1 x2 x3 x4
 have c7:=S.c7
 rw [hvc] at c7
 have c0:=S.c0
 have c11:=S.c11
 have nr:=S.fo_new (Nat.le_refl _)
 have nrO:¬ own E L w.heap.size:=fun hk=>nr (.inl hk)
 have nib:¬ fo E L P vs ib:=fun hk=>by have:=(S.fo_lo hk).1;omega
 have nibO:¬ own E L ib:=fun hk=>nib (.inl hk)
 have hibw:ib < w.heap.size:=by have:=S.base;omega
 have hati:(fr.at_:Int) < m.code.length:=by omega
 have hatd:decide ((fr.at_:Int) < m.code.length)=true:=by simpa using hati
 have hwr:IntKind.i64.wrap ((fr.at_:Int)+1)=(fr.at_:Int)+1:=by rw [Num.wrap_i64,wrap64_id (by unfold Ok;omega)]
 have HCO:=Lib.hid hvc
 clear S iel hi hx hvc i1
 go_enter Tryz.func54,Tryz.ntmps54
 go_wp2_with (go_at_call 104;refine (stepOk (HS.out.below (by exact Rd.byB)).H hs hfu).mono ?_;rintro e w2 ⟨rfl,H2,K2⟩;have S2:=(HS.out.below (w':=w.alloc (.cells #[.int .i64 0,.int .i64 0] 46)) (by exact Rd.byB)).heap K2 same_own H2;have r0:=K2.cell (c:=w.heap.size) (o:=0) (v:=.int .i64 0) (by go_simp) nrO;have r1:=K2.cell (c:=w.heap.size) (o:=1) (v:=.int .i64 0) (by go_simp) nrO;have rf0:=K2.frz (c:=w.heap.size) (o:=0) (b:=false) (by go_simp) (by simp) nrO;have rf1:=K2.frz (c:=w.heap.size) (o:=1) (b:=false) (by go_simp) (by simp) nrO;have z0:=S2.c0;have z11:=S2.c11;have z7:=S2.c7;rw [HCO.out] at z7;have u0:=K2.cell (c:=ib) (o:=io+fr.at_*6) (v:=.int .i64 (12)) (by go_simp) nibO;have u1:=K2.cell (c:=ib) (o:=io+fr.at_*6+1) (v:=.int .i64 a) (by go_simp) nibO;have u2:=K2.cell (c:=ib) (o:=io+fr.at_*6+2) (v:=.int .i64 b) (by go_simp) nibO;have u3:=K2.cell (c:=ib) (o:=io+fr.at_*6+3) (v:=.int .i64 c) (by go_simp) nibO;have u4:=K2.cell (c:=ib) (o:=io+fr.at_*6+4) (v:=.int .i64 n) (by go_simp) nibO;have u5:=K2.cell (c:=ib) (o:=io+fr.at_*6+5) (v:=.slice aa args.length acap) (by go_simp) nibO;have GW:=Lib.hid (show Gr E L P vs w L vs w2 from ⟨(Kp.of_below (B:=w.heap.size) (X:=fo E L P vs) (w':=w.alloc (.cells #[.int .i64 0,.int .i64 0] 46)) (by exact Rd.byB) (Nat.le_refl _)).trans K2 (fun y hy=>.inl (.inl hy)),fun _ q=>.inl q,fun _ q=>.inl q⟩);have nf2:=S2.fo_new (Nat.le_refl _);have hcb2:=S2.cbw;have hrw:=cell_lt r0;have hib2:=cell_lt u0;replace S2:=Lib.hid S2;clear H2 K2 c7 c0 c11 x0 x1 x2 x3 x4 x5)
 refine Drawn.hd (fun w'=>w'.cell? ⟨P.cb,11,none⟩=some (.int .i64 fr.at_)∧w'.cell? ⟨P.cb,7,none⟩=some (.slice (some ⟨ib,io,none⟩) m.code.length icap)) (h:=fun hHeld=>?_)
 refine Drawn.T 0 (some 12) (h:=?_)
 refine Drawn.T 1 (some 13) (h:=?_)
 refine Drawn.T 2 (some 14) (h:=?_)
 refine Drawn.T 3 (some 15) (h:=?_)
 refine Drawn.T 4 (some 16) (h:=?_)
 refine Drawn.T 5 (some 17) (h:=?_)
 refine Drawn.T 6 (some 18) (h:=?_)
 refine Drawn.T 7 (some 19) (h:=?_)
 refine Drawn.T 8 (some 20) (h:=?_)
 refine Drawn.T 9 (some 21) (h:=?_)
 refine Drawn.T 10 (some 22) (h:=?_)
 refine Drawn.cl 11 (fun K hK=>?_)
 go_simp
 refine (mustT _).mono ?_
 rintro e w3 ⟨rfl,rfl⟩
 go_wp2_with fail
 refine Drawn.bk hK (h:=fun hHeld=>?_)
 clear hK K
 refine wpAnyH_done (by kernel_rfl) ?_ _
 go_wp2_with fail
 refine Drawn.hd (fun w'=>w'.cell? ⟨P.cb,11,none⟩=some (.int .i64 fr.at_)∧w'.cell? ⟨P.cb,7,none⟩=some (.slice (some ⟨ib,io,none⟩) m.code.length icap)∧w'.cell? ⟨ib,io+fr.at_*6,none⟩=some (.int .i64 12)∧w'.cell? ⟨ib,io+fr.at_*6+1,none⟩=some (.int .i64 a)∧w'.cell? ⟨ib,io+fr.at_*6+2,none⟩=some (.int .i64 b)∧w'.cell? ⟨ib,io+fr.at_*6+3,none⟩=some (.int .i64 c)∧w'.cell? ⟨ib,io+fr.at_*6+4,none⟩=some (.int .i64 n)∧w'.cell? ⟨ib,io+fr.at_*6+5,none⟩=some (.slice aa args.length acap)) (h:=fun hHeld=>?_)
 refine Drawn.T 0 (some 24) (h:=?_)
 refine Drawn.T 1 (some 25) (h:=?_)
 refine Drawn.T 2 (some 26) (h:=?_)
 refine Drawn.T 3 (some 27) (h:=?_)
 refine Drawn.T 4 (some 28) (h:=?_)
 refine Drawn.T 5 (some 29) (h:=?_)
 refine Drawn.T 6 (some 30) (h:=?_)
 refine Drawn.T 7 (some 31) (h:=?_)
 refine Drawn.T 8 (some 32) (h:=?_)
 refine Drawn.T 9 (some 33) (h:=?_)
 refine Drawn.T 10 (some 34) (h:=?_)
 refine Drawn.cl 11 (fun K hK=>?_)
 go_simp
 refine Drawn.bk hK (h:=fun hHeld=>?_)
 clear hK K
 refine Drawn.cl 12 (fun K hK=>?_)
 go_simp
 refine Drawn.bk hK (h:=fun hHeld=>?_)
 clear hK K
 refine wpAnyH_done (by kernel_rfl) ?_ _
 generalize hWW:World.drew _=W
 replace hWW:=Lib.hid hWW
 have k0:W.cell? ⟨w2.heap.size,0,none⟩=some (.int .i64 (12)):=by rw [← hWW.out];go_simp
 have k1:W.cell? ⟨w2.heap.size,1,none⟩=some (.int .i64 a):=by rw [← hWW.out];go_simp
 have k2:W.cell? ⟨w2.heap.size,2,none⟩=some (.int .i64 b):=by rw [← hWW.out];go_simp
 have k3:W.cell? ⟨w2.heap.size,3,none⟩=some (.int .i64 c):=by rw [← hWW.out];go_simp
 have k4:W.cell? ⟨w2.heap.size,4,none⟩=some (.int .i64 n):=by rw [← hWW.out];go_simp
 have k5:W.cell? ⟨w2.heap.size,5,none⟩=some (.slice aa args.length acap):=by rw [← hWW.out];go_simp
 have hbW:Below w2.heap.size w2 W:=by rw [← hWW.out];exact Rd.byB
 have hzW:w2.heap.size < W.heap.size:=cell_lt k0
 have SW:=S2.out.below hbW
 have s0:=kept hbW hrw r0
 have s1:=kept hbW hrw r1
 have sf0:=frz_kept hbW hrw rf0
 have sf1:=frz_kept hbW hrw rf1
 have e0:=SW.c0
 have e11:=SW.c11
 have ef11:=SW.fz 11 (by decide)
 have hcbW:=SW.cbw
 have hrW:w.heap.size < W.heap.size:=by omega
 have G:=Lib.hid (GW.out.trans (Gr.of_below hbW))
 replace SW:=Lib.hid SW
 clear hWW r0 r1 rf0 rf1 z0 z11 z7 u0 u1 u2 u3 u4 u5 GW hbW S2
 go_wp2_with fail
 refine Drawn.hd (fun w'=>w'.cell? ⟨w2.heap.size,2,none⟩=some (.int .i64 b)) (h:=fun hHeld=>?_)
 refine Drawn.T 0 (some 76) (h:=?_)
 refine Drawn.T 1 (some 77) (h:=?_)
 refine Drawn.T 2 (some 78) (h:=?_)
 refine Drawn.cl 3 (fun K hK=>?_)
 go_simp
 go_at_call 107
 refine (takeBad (SW.out.below (by exact Rd.byB)) hn hbig _ hk).mono ?_
 rintro e w4 ⟨rfl,A⟩
 obtain ⟨L4,v4,G4,S4⟩:=(LftF.before (w:=W) (by exact Rd.byB) A).opn
 unfold pan
 refine And.intro rfl ?_
 exact ⟨Pan.one _,((G.out.trans G4).lft S4).stop⟩
set_option maxRecDepth 100000 in
theorem do12t (S:ST E w L P m d h fr vs) (hbig:fr.stk.length≤1000) (hatb:fr.at_≤100000) (hs:h.steps < E.fuel) (hfu:E.fuel≤60000) (a b c n:Int) (args:List Int) (hi:m.code[fr.at_]? = some ⟨12,a,b,c,n,args⟩) (hn:fr.stk≠[]) (hk:(top fr.stk).kind=1) (ha:0≤a) (hh:Num.holds b (top fr.stk).n=true) :
  Calls Tryz.prog 54 #[.pointer (some ⟨P.cb,0,none⟩)] w (DoR E L P m d vs fr w (.go ⟨fr.loc,fr.stk.dropLast,a.toNat⟩ (stepped h))):=by
 obtain ⟨a,rfl⟩:=Int.eq_ofNat_of_zero_le ha
 obtain ⟨⟨tk,tn⟩,ht⟩:∃ t,Hid (top fr.stk=t):=⟨_,Lib.hid rfl⟩
 rw [ht.out] at hk
 simp only at hk
 subst hk
 have hfl:=fieldN
 have hp:=Lib.hid hh
 rw [ht.out] at hp
 clear hh
 have HS:=Lib.hid S
 have hcb:=S.cbw
 have hat:fr.at_ < m.code.length:=(List.getElem?_eq_some_iff.1 hi).1
 obtain ⟨ica,icap,hvc,i1,i2,iel⟩:=id S.M.co
 obtain ⟨ib,io,rfl,hib,hie⟩:=iel fr.at_ hat
 have hx:m.code[fr.at_]=⟨12,a,b,c,n,args⟩:=by rw [List.getElem?_eq_getElem hat] at hi;exact Option.some.inj hi
 rw [hx] at hie
 obtain ⟨x0,x1,x2,x3,x4,_,va,x5,hva⟩:=hie
 obtain ⟨aa,acap,rfl,_⟩:=hva
 simp only at x0 x1 x2 x3 x4
 have c7:=S.c7
 rw [hvc] at c7
 have c0:=S.c0
 have c11:=S.c11
 have nr:=S.fo_new (Nat.le_refl _)
 have nrO:¬ own E L w.heap.size:=fun hk=>nr (.inl hk)
 have nib:¬ fo E L P vs ib:=fun hk=>by have:=(S.fo_lo hk).1;omega
 have nibO:¬ own E L ib:=fun hk=>nib (.inl hk)
 have hibw:ib < w.heap.size:=by have:=S.base;omega
 have hati:(fr.at_:Int) < m.code.length:=by omega
 have hatd:decide ((fr.at_:Int) < m.code.length)=true:=by simpa using hati
 have hwr:IntKind.i64.wrap ((fr.at_:Int)+1)=(fr.at_:Int)+1:=by rw [Num.wrap_i64,wrap64_id (by unfold Ok;omega)]
 have HCO:=Lib.hid hvc
 clear S iel hi hx hvc i1
 go_enter Tryz.func54,Tryz.ntmps54
 go_wp2_with (go_at_call 104;refine (stepOk (HS.out.below (by exact Rd.byB)).H hs hfu).mono ?_;rintro e w2 ⟨rfl,H2,K2⟩;have S2:=(HS.out.below (w':=w.alloc (.cells #[.int .i64 0,.int .i64 0] 46)) (by exact Rd.byB)).heap K2 same_own H2;have r0:=K2.cell (c:=w.heap.size) (o:=0) (v:=.int .i64 0) (by go_simp) nrO;have r1:=K2.cell (c:=w.heap.size) (o:=1) (v:=.int .i64 0) (by go_simp) nrO;have rf0:=K2.frz (c:=w.heap.size) (o:=0) (b:=false) (by go_simp) (by simp) nrO;have rf1:=K2.frz (c:=w.heap.size) (o:=1) (b:=false) (by go_simp) (by simp) nrO;have z0:=S2.c0;have z11:=S2.c11;have z7:=S2.c7;rw [HCO.out] at z7;have u0:=K2.cell (c:=ib) (o:=io+fr.at_*6) (v:=.int .i64 (12)) (by go_simp) nibO;have u1:=K2.cell (c:=ib) (o:=io+fr.at_*6+1) (v:=.int .i64 a) (by go_simp) nibO;have u2:=K2.cell (c:=ib) (o:=io+fr.at_*6+2) (v:=.int .i64 b) (by go_simp) nibO;have u3:=K2.cell (c:=ib) (o:=io+fr.at_*6+3) (v:=.int .i64 c) (by go_simp) nibO;have u4:=K2.cell (c:=ib) (o:=io+fr.at_*6+4) (v:=.int .i64 n) (by go_simp) nibO;have u5:=K2.cell (c:=ib) (o:=io+fr.at_*6+5) (v:=.slice aa args.length acap) (by go_simp) nibO;have GW:=Lib.hid (show Gr E L P vs w L vs w2 from ⟨(Kp.of_below (B:=w.heap.size) (X:=fo E L P vs) (w':=w.alloc (.cells #[.int .i64 0,.int .i64 0] 46)) (by exact Rd.byB) (Nat.le_refl _)).trans K2 (fun y hy=>.inl (.inl hy)),fun _ q=>.inl q,fun _ q=>.inl q⟩);have nf2:=S2.fo_new (Nat.le_refl _);have hcb2:=S2.cbw;have hrw:=cell_lt r0;have hib2:=cell_lt u0;replace S2:=Lib.hid S2;clear H2 K2 c7 c0 c11 x0 x1 x2 x3 x4 x5)
 refine Drawn.hd (fun w'=>w'.cell? ⟨P.cb,11,none⟩=some (.int .i64 fr.at_)∧w'.cell? ⟨P.cb,7,none⟩=some (.slice (some ⟨ib,io,none⟩) m.code.length icap)) (h:=fun hHeld=>?_)
 refine Drawn.T 0 (some 12) (h:=?_)
 refine Drawn.T 1 (some 13) (h:=?_)
 refine Drawn.T 2 (some 14) (h:=?_)
 refine Drawn.T 3 (some 15) (h:=?_)
 refine Drawn.T 4 (some 16) (h:=?_)
 refine Drawn.T 5 (some 17) (h:=?_)
 refine Drawn.T 6 (some 18) (h:=?_)
 refine Drawn.T 7 (some 19) (h:=?_)
 refine Drawn.T 8 (some 20) (h:=?_)
 refine Drawn.T 9 (some 21) (h:=?_)
 refine Drawn.T 10 (some 22) (h:=?_)
 refine Drawn.cl 11 (fun K hK=>?_)
 go_simp
 refine (mustT _).mono ?_
 rintro e w3 ⟨rfl,rfl⟩
 go_wp2_with fail
 refine Drawn.bk hK (h:=fun hHeld=>?_)
 clear hK K
 refine wpAnyH_done (by kernel_rfl) ?_ _
 go_wp2_with fail
 refine Drawn.hd (fun w'=>w'.cell? ⟨P.cb,11,none⟩=some (.int .i64 fr.at_)∧w'.cell? ⟨P.cb,7,none⟩=some (.slice (some ⟨ib,io,none⟩) m.code.length icap)∧w'.cell? ⟨ib,io+fr.at_*6,none⟩=some (.int .i64 12)∧w'.cell? ⟨ib,io+fr.at_*6+1,none⟩=some (.int .i64 a)∧w'.cell? ⟨ib,io+fr.at_*6+2,none⟩=some (.int .i64 b)∧w'.cell? ⟨ib,io+fr.at_*6+3,none⟩=some (.int .i64 c)∧w'.cell? ⟨ib,io+fr.at_*6+4,none⟩=some (.int .i64 n)∧w'.cell? ⟨ib,io+fr.at_*6+5,none⟩=some (.slice aa args.length acap)) (h:=fun hHeld=>?_)
 refine Drawn.T 0 (some 24) (h:=?_)
 refine Drawn.T 1 (some 25) (h:=?_)
 refine Drawn.T 2 (some 26) (h:=?_)
 refine Drawn.T 3 (some 27) (h:=?_)
 refine Drawn.T 4 (some 28) (h:=?_)
 refine Drawn.T 5 (some 29) (h:=?_)
 refine Drawn.T 6 (some 30) (h:=?_)
 refine Drawn.T 7 (some 31) (h:=?_)
 refine Drawn.T 8 (some 32) (h:=?_)
 refine Drawn.T 9 (some 33) (h:=?_)
 refine Drawn.T 10 (some 34) (h:=?_)
 refine Drawn.cl 11 (fun K hK=>?_)
 go_simp
 refine Drawn.bk hK (h:=fun hHeld=>?_)
 clear hK K
 refine Drawn.cl 12 (fun K hK=>?_)
 go_simp
 refine Drawn.bk hK (h:=fun hHeld=>?_)
 clear hK K
 refine wpAnyH_done (by kernel_rfl) ?_ _
 generalize hWW:World.drew _=W
 replace hWW:=Lib.hid hWW
 have k0:W.cell? ⟨w2.heap.size,0,none⟩=some (.int .i64 (12)):=by rw [← hWW.out];go_simp
 have k1:W.cell? ⟨w2.heap.size,1,none⟩=some (.int .i64 a):=by rw [← hWW.out];go_simp
 have k2:W.cell? ⟨w2.heap.size,2,none⟩=some (.int .i64 b):=by rw [← hWW.out];go_simp
 have k3:W.cell? ⟨w2.heap.size,3,none⟩=some (.int .i64 c):=by rw [← hWW.out];go_simp
 have k4:W.cell? ⟨w2.heap.size,4,none⟩=some (.int .i64 n):=by rw [← hWW.out];go_simp
 have k5:W.cell? ⟨w2.heap.size,5,none⟩=some (.slice aa args.length acap):=by rw [← hWW.out];go_simp
 have hbW:Below w2.heap.size w2 W:=by rw [← hWW.out];exact Rd.byB
 have hzW:w2.heap.size < W.heap.size:=cell_lt k0
 have SW:=S2.out.below hbW
 have s0:=kept hbW hrw r0
 have s1:=kept hbW hrw r1
 have sf0:=frz_kept hbW hrw rf0
 have sf1:=frz_kept hbW hrw rf1
 have e0:=SW.c0
 have e11:=SW.c11
 have ef11:=SW.fz 11 (by decide)
 have hcbW:=SW.cbw
 have hrW:w.heap.size < W.heap.size:=by omega
 have G:=Lib.hid (GW.out.trans (Gr.of_below hbW))
 replace SW:=Lib.hid SW
 clear hWW r0 r1 rf0 rf1 z0 z11 z7 u0 u1 u2 u3 u4 u5 GW hbW S2
 go_wp2_with fail
 refine Drawn.hd (fun w'=>w'.cell? ⟨w2.heap.size,2,none⟩=some (.int .i64 b)) (h:=fun hHeld=>?_)
 refine Drawn.T 0 (some 76) (h:=?_)
 refine Drawn.T 1 (some 77) (h:=?_)
 refine Drawn.T 2 (some 78) (h:=?_)
 refine Drawn.cl 3 (fun K hK=>?_)
 go_simp
 go_at_call 107
 refine (takeOk (SW.out.below (by exact Rd.byB)) hn hbig _ (by rw [ht.out])).mono ?_
 rw [ht.out]
 unfold vl
 rintro e w4 ⟨rfl,A⟩
 obtain ⟨L4,v4,G4,S4⟩:=A.opn
 have y1:=G4.cell (b:=w2.heap.size) (o:=1) (v:=.int .i64 a) nf2 (by go_simp)
 have y2:=G4.cell (b:=w2.heap.size) (o:=2) (v:=.int .i64 b) nf2 (by go_simp)
 have t0:=G4.cell (b:=w.heap.size) (o:=0) (v:=.int .i64 0) nr (by go_simp)
 have t1:=G4.cell (b:=w.heap.size) (o:=1) (v:=.int .i64 0) nr (by go_simp)
 have tf0:=G4.frz (b:=w.heap.size) (o:=0) (x:=false) nr (by first | omega | (simp;omega)) (by go_simp)
 have tf1:=G4.frz (b:=w.heap.size) (o:=1) (x:=false) nr (by first | omega | (simp;omega)) (by go_simp)
 have nr4:=G4.nf (by first | omega | (simp;omega)) nr
 have GB:=Lib.hid ((G.out.trans (Gr.of_below (by exact Rd.byB))).trans G4)
 have hrw4:=cell_lt t0
 replace S4:=Lib.hid S4
 clear A G4 s0 s1 sf0 sf1 k0 k1 k2 k3 k4 k5 e0 e11 ef11
 go_wp2_with fail
 refine Drawn.bk hK (hS:=by (try dsimp only);exact y2) (h:=fun hHeld=>?_)
 clear hK K
 refine Drawn.T 4 (some 80) (h:=?_)
 refine Drawn.cl 5 (fun K hK=>?_)
 go_simp
 go_at_call 106
 refine (NumW.holds b tn _).mono ?_
 rw [hp.out]
 rintro e w5 ⟨rfl,hb5⟩
 have y1':=kept hb5 (cell_lt y1) y1
 have y2':=kept hb5 (cell_lt y2) y2
 have t0':=kept hb5 hrw4 t0
 have t1':=kept hb5 hrw4 t1
 have tf0':=frz_kept hb5 hrw4 tf0
 have tf1':=frz_kept hb5 hrw4 tf1
 have GC:=Lib.hid (GB.out.trans (Gr.of_below hb5))
 have S5:=Lib.hid (S4.out.below hb5)
 have hrw5:w.heap.size < w5.heap.size:=cell_lt t0'
 clear t0 t1 tf0 tf1 y1 y2
 go_wp2_with fail
 refine Drawn.bk hK (hS:=by (try dsimp only);exact y2') (h:=fun hHeld=>?_)
 clear hK K
 refine wpAnyH_done (by kernel_rfl) ?_ _
 have e11':=S5.out.c11
 have ef11':=S5.out.fz 11 (by decide)
 have hcb':=S5.out.cbw
 go_wp2_with fail
 refine bodyPost_ret (v:=.tuple #[.agg #[.int .i64 0,.int .i64 0],.bool false]) (by simp [results,Tryz.results54,go_sem] <;> go_simp) rfl ?_
 obtain ⟨L8,v8,G8,S8⟩:=(S5.out.setAt (a)).opn
 exact ⟨rfl,Gr.upon HS.out (GC.out.trans G8) S8 (Nat.le_refl _) (G8.nf hrw5 nr4) _ _⟩
set_option maxRecDepth 100000 in
theorem do12f (S:ST E w L P m d h fr vs) (hbig:fr.stk.length≤1000) (hatb:fr.at_≤100000) (hs:h.steps < E.fuel) (hfu:E.fuel≤60000) (a b c n:Int) (args:List Int) (hi:m.code[fr.at_]? = some ⟨12,a,b,c,n,args⟩) (hn:fr.stk≠[]) (hk:(top fr.stk).kind=1) (ha:0≤a) (hh:Num.holds b (top fr.stk).n=false) :
  Calls Tryz.prog 54 #[.pointer (some ⟨P.cb,0,none⟩)] w (DoR E L P m d vs fr w (.go ⟨fr.loc,fr.stk.dropLast,fr.at_+1⟩ (stepped h))):=by
 obtain ⟨a,rfl⟩:=Int.eq_ofNat_of_zero_le ha
 obtain ⟨⟨tk,tn⟩,ht⟩:∃ t,Hid (top fr.stk=t):=⟨_,Lib.hid rfl⟩
 rw [ht.out] at hk
 simp only at hk
 subst hk
 have hfl:=fieldN
 have hp:=Lib.hid hh
 rw [ht.out] at hp
 clear hh
 have HS:=Lib.hid S
 have hcb:=S.cbw
 have hat:fr.at_ < m.code.length:=(List.getElem?_eq_some_iff.1 hi).1
 obtain ⟨ica,icap,hvc,i1,i2,iel⟩:=id S.M.co
 obtain ⟨ib,io,rfl,hib,hie⟩:=iel fr.at_ hat
 have hx:m.code[fr.at_]=⟨12,a,b,c,n,args⟩:=by rw [List.getElem?_eq_getElem hat] at hi;exact Option.some.inj hi
 rw [hx] at hie
 obtain ⟨x0,x1,x2,x3,x4,_,va,x5,hva⟩:=hie
 obtain ⟨aa,acap,rfl,_⟩:=hva
 simp only at x0 x1 x2 x3 x4
 have c7:=S.c7
 rw [hvc] at c7
 have c0:=S.c0
 have c11:=S.c11
 have nr:=S.fo_new (Nat.le_refl _)
 have nrO:¬ own E L w.heap.size:=fun hk=>nr (.inl hk)
 have nib:¬ fo E L P vs ib:=fun hk=>by have:=(S.fo_lo hk).1;omega
 have nibO:¬ own E L ib:=fun hk=>nib (.inl hk)
 have hibw:ib < w.heap.size:=by have:=S.base;omega
 have hati:(fr.at_:Int) < m.code.length:=by omega
 have hatd:decide ((fr.at_:Int) < m.code.length)=true:=by simpa using hati
 have hwr:IntKind.i64.wrap ((fr.at_:Int)+1)=(fr.at_:Int)+1:=by rw [Num.wrap_i64,wrap64_id (by unfold Ok;omega)]
 have HCO:=Lib.hid hvc
 clear S iel hi hx hvc i1
 go_enter Tryz.func54,Tryz.ntmps54
 go_wp2_with (go_at_call 104;refine (stepOk (HS.out.below (by exact Rd.byB)).H hs hfu).mono ?_;rintro e w2 ⟨rfl,H2,K2⟩;have S2:=(HS.out.below (w':=w.alloc (.cells #[.int .i64 0,.int .i64 0] 46)) (by exact Rd.byB)).heap K2 same_own H2;have r0:=K2.cell (c:=w.heap.size) (o:=0) (v:=.int .i64 0) (by go_simp) nrO;have r1:=K2.cell (c:=w.heap.size) (o:=1) (v:=.int .i64 0) (by go_simp) nrO;have rf0:=K2.frz (c:=w.heap.size) (o:=0) (b:=false) (by go_simp) (by simp) nrO;have rf1:=K2.frz (c:=w.heap.size) (o:=1) (b:=false) (by go_simp) (by simp) nrO;have z0:=S2.c0;have z11:=S2.c11;have z7:=S2.c7;rw [HCO.out] at z7;have u0:=K2.cell (c:=ib) (o:=io+fr.at_*6) (v:=.int .i64 (12)) (by go_simp) nibO;have u1:=K2.cell (c:=ib) (o:=io+fr.at_*6+1) (v:=.int .i64 a) (by go_simp) nibO;have u2:=K2.cell (c:=ib) (o:=io+fr.at_*6+2) (v:=.int .i64 b) (by go_simp) nibO;have u3:=K2.cell (c:=ib) (o:=io+fr.at_*6+3) (v:=.int .i64 c) (by go_simp) nibO;have u4:=K2.cell (c:=ib) (o:=io+fr.at_*6+4) (v:=.int .i64 n) (by go_simp) nibO;have u5:=K2.cell (c:=ib) (o:=io+fr.at_*6+5) (v:=.slice aa args.length acap) (by go_simp) nibO;have GW:=Lib.hid (show Gr E L P vs w L vs w2 from ⟨(Kp.of_below (B:=w.heap.size) (X:=fo E L P vs) (w':=w.alloc (.cells #[.int .i64 0,.int .i64 0] 46)) (by exact Rd.byB) (Nat.le_refl _)).trans K2 (fun y hy=>.inl (.inl hy)),fun _ q=>.inl q,fun _ q=>.inl q⟩);have nf2:=S2.fo_new (Nat.le_refl _);have hcb2:=S2.cbw;have hrw:=cell_lt r0;have hib2:=cell_lt u0;replace S2:=Lib.hid S2;clear H2 K2 c7 c0 c11 x0 x1 x2 x3 x4 x5)
 refine Drawn.hd (fun w'=>w'.cell? ⟨P.cb,11,none⟩=some (.int .i64 fr.at_)∧w'.cell? ⟨P.cb,7,none⟩=some (.slice (some ⟨ib,io,none⟩) m.code.length icap)) (h:=fun hHeld=>?_)
 refine Drawn.T 0 (some 12) (h:=?_)
 refine Drawn.T 1 (some 13) (h:=?_)
 refine Drawn.T 2 (some 14) (h:=?_)
 refine Drawn.T 3 (some 15) (h:=?_)
 refine Drawn.T 4 (some 16) (h:=?_)
 refine Drawn.T 5 (some 17) (h:=?_)
 refine Drawn.T 6 (some 18) (h:=?_)
 refine Drawn.T 7 (some 19) (h:=?_)
 refine Drawn.T 8 (some 20) (h:=?_)
 refine Drawn.T 9 (some 21) (h:=?_)
 refine Drawn.T 10 (some 22) (h:=?_)
 refine Drawn.cl 11 (fun K hK=>?_)
 go_simp
 refine (mustT _).mono ?_
 rintro e w3 ⟨rfl,rfl⟩
 go_wp2_with fail
 refine Drawn.bk hK (h:=fun hHeld=>?_)
 clear hK K
 refine wpAnyH_done (by kernel_rfl) ?_ _
 go_wp2_with fail
 refine Drawn.hd (fun w'=>w'.cell? ⟨P.cb,11,none⟩=some (.int .i64 fr.at_)∧w'.cell? ⟨P.cb,7,none⟩=some (.slice (some ⟨ib,io,none⟩) m.code.length icap)∧w'.cell? ⟨ib,io+fr.at_*6,none⟩=some (.int .i64 12)∧w'.cell? ⟨ib,io+fr.at_*6+1,none⟩=some (.int .i64 a)∧w'.cell? ⟨ib,io+fr.at_*6+2,none⟩=some (.int .i64 b)∧w'.cell? ⟨ib,io+fr.at_*6+3,none⟩=some (.int .i64 c)∧w'.cell? ⟨ib,io+fr.at_*6+4,none⟩=some (.int .i64 n)∧w'.cell? ⟨ib,io+fr.at_*6+5,none⟩=some (.slice aa args.length acap)) (h:=fun hHeld=>?_)
 refine Drawn.T 0 (some 24) (h:=?_)
 refine Drawn.T 1 (some 25) (h:=?_)
 refine Drawn.T 2 (some 26) (h:=?_)
 refine Drawn.T 3 (some 27) (h:=?_)
 refine Drawn.T 4 (some 28) (h:=?_)
 refine Drawn.T 5 (some 29) (h:=?_)
 refine Drawn.T 6 (some 30) (h:=?_)
 refine Drawn.T 7 (some 31) (h:=?_)
 refine Drawn.T 8 (some 32) (h:=?_)
 refine Drawn.T 9 (some 33) (h:=?_)
 refine Drawn.T 10 (some 34) (h:=?_)
 refine Drawn.cl 11 (fun K hK=>?_)
 go_simp
 refine Drawn.bk hK (h:=fun hHeld=>?_)
 clear hK K
 refine Drawn.cl 12 (fun K hK=>?_)
 go_simp
 refine Drawn.bk hK (h:=fun hHeld=>?_)
 clear hK K
 refine wpAnyH_done (by kernel_rfl) ?_ _
 generalize hWW:World.drew _=W
 replace hWW:=Lib.hid hWW
 have k0:W.cell? ⟨w2.heap.size,0,none⟩=some (.int .i64 (12)):=by rw [← hWW.out];go_simp
 have k1:W.cell? ⟨w2.heap.size,1,none⟩=some (.int .i64 a):=by rw [← hWW.out];go_simp
 have k2:W.cell? ⟨w2.heap.size,2,none⟩=some (.int .i64 b):=by rw [← hWW.out];go_simp
 have k3:W.cell? ⟨w2.heap.size,3,none⟩=some (.int .i64 c):=by rw [← hWW.out];go_simp
 have k4:W.cell? ⟨w2.heap.size,4,none⟩=some (.int .i64 n):=by rw [← hWW.out];go_simp
 have k5:W.cell? ⟨w2.heap.size,5,none⟩=some (.slice aa args.length acap):=by rw [← hWW.out];go_simp
 have hbW:Below w2.heap.size w2 W:=by rw [← hWW.out];exact Rd.byB
 have hzW:w2.heap.size < W.heap.size:=cell_lt k0
 have SW:=S2.out.below hbW
 have s0:=kept hbW hrw r0
 have s1:=kept hbW hrw r1
 have sf0:=frz_kept hbW hrw rf0
 have sf1:=frz_kept hbW hrw rf1
 have e0:=SW.c0
 have e11:=SW.c11
 have ef11:=SW.fz 11 (by decide)
 have hcbW:=SW.cbw
 have hrW:w.heap.size < W.heap.size:=by omega
 have G:=Lib.hid (GW.out.trans (Gr.of_below hbW))
 replace SW:=Lib.hid SW
 clear hWW r0 r1 rf0 rf1 z0 z11 z7 u0 u1 u2 u3 u4 u5 GW hbW S2
 go_wp2_with fail
 refine Drawn.hd (fun w'=>w'.cell? ⟨w2.heap.size,2,none⟩=some (.int .i64 b)) (h:=fun hHeld=>?_)
 refine Drawn.T 0 (some 76) (h:=?_)
 refine Drawn.T 1 (some 77) (h:=?_)
 refine Drawn.T 2 (some 78) (h:=?_)
 refine Drawn.cl 3 (fun K hK=>?_)
 go_simp
 go_at_call 107
 refine (takeOk (SW.out.below (by exact Rd.byB)) hn hbig _ (by rw [ht.out])).mono ?_
 rw [ht.out]
 unfold vl
 rintro e w4 ⟨rfl,A⟩
 obtain ⟨L4,v4,G4,S4⟩:=A.opn
 have y1:=G4.cell (b:=w2.heap.size) (o:=1) (v:=.int .i64 a) nf2 (by go_simp)
 have y2:=G4.cell (b:=w2.heap.size) (o:=2) (v:=.int .i64 b) nf2 (by go_simp)
 have t0:=G4.cell (b:=w.heap.size) (o:=0) (v:=.int .i64 0) nr (by go_simp)
 have t1:=G4.cell (b:=w.heap.size) (o:=1) (v:=.int .i64 0) nr (by go_simp)
 have tf0:=G4.frz (b:=w.heap.size) (o:=0) (x:=false) nr (by first | omega | (simp;omega)) (by go_simp)
 have tf1:=G4.frz (b:=w.heap.size) (o:=1) (x:=false) nr (by first | omega | (simp;omega)) (by go_simp)
 have nr4:=G4.nf (by first | omega | (simp;omega)) nr
 have GB:=Lib.hid ((G.out.trans (Gr.of_below (by exact Rd.byB))).trans G4)
 have hrw4:=cell_lt t0
 replace S4:=Lib.hid S4
 clear A G4 s0 s1 sf0 sf1 k0 k1 k2 k3 k4 k5 e0 e11 ef11
 go_wp2_with fail
 refine Drawn.bk hK (hS:=by (try dsimp only);exact y2) (h:=fun hHeld=>?_)
 clear hK K
 refine Drawn.T 4 (some 80) (h:=?_)
 refine Drawn.cl 5 (fun K hK=>?_)
 go_simp
 go_at_call 106
 refine (NumW.holds b tn _).mono ?_
 rw [hp.out]
 rintro e w5 ⟨rfl,hb5⟩
 have y1':=kept hb5 (cell_lt y1) y1
 have y2':=kept hb5 (cell_lt y2) y2
 have t0':=kept hb5 hrw4 t0
 have t1':=kept hb5 hrw4 t1
 have tf0':=frz_kept hb5 hrw4 tf0
 have tf1':=frz_kept hb5 hrw4 tf1
 have GC:=Lib.hid (GB.out.trans (Gr.of_below hb5))
 have S5:=Lib.hid (S4.out.below hb5)
 have hrw5:w.heap.size < w5.heap.size:=cell_lt t0'
 clear t0 t1 tf0 tf1 y1 y2
 go_wp2_with fail
 refine Drawn.bk hK (hS:=by (try dsimp only);exact y2') (h:=fun hHeld=>?_)
 clear hK K
 refine wpAnyH_done (by kernel_rfl) ?_ _
 have e11':=S5.out.c11
 have ef11':=S5.out.fz 11 (by decide)
 have hcb':=S5.out.cbw
 go_wp2_with fail
 refine bodyPost_ret (v:=.tuple #[.agg #[.int .i64 0,.int .i64 0],.bool false]) (by simp [results,Tryz.results54,go_sem] <;> go_simp) rfl ?_
 obtain ⟨L8,v8,G8,S8⟩:=(S5.out.setAt (fr.at_+1)).opn
 exact ⟨rfl,Gr.upon HS.out (GC.out.trans G8) S8 (Nat.le_refl _) (G8.nf hrw5 nr4) _ _⟩
set_option maxRecDepth 100000 in
theorem do13n (S:ST E w L P m d h fr vs) (hbig:fr.stk.length≤1000) (hatb:fr.at_≤100000) (hs:h.steps < E.fuel) (hfu:E.fuel≤60000) (a b c n:Int) (args:List Int) (hi:m.code[fr.at_]? = some ⟨13,a,b,c,n,args⟩) (hn:fr.stk=[]) :
  Calls Tryz.prog 54 #[.pointer (some ⟨P.cb,0,none⟩)] w (DoR E L P m d vs fr w (.stop 6 (stepped h))):=by
 have HS:=Lib.hid S
 have hcb:=S.cbw
 have hat:fr.at_ < m.code.length:=(List.getElem?_eq_some_iff.1 hi).1
 obtain ⟨ica,icap,hvc,i1,i2,iel⟩:=id S.M.co
 obtain ⟨ib,io,rfl,hib,hie⟩:=iel fr.at_ hat
 have hx:m.code[fr.at_]=⟨13,a,b,c,n,args⟩:=by rw [List.getElem?_eq_getElem hat] at hi;exact Option.some.inj hi
 rw [hx] at hie
 obtain ⟨x0,x1,x2,x3,x4,_,va,x5,hva⟩:=hie
 obtain ⟨aa,acap,rfl,_⟩:=hva
 simp only at x0 x1 x2 x3 x4
 have c7:=S.c7
 rw [hvc] at c7
 have c0:=S.c0
 have c11:=S.c11
 have nr:=S.fo_new (Nat.le_refl _)
 have nrO:¬ own E L w.heap.size:=fun hk=>nr (.inl hk)
 have nib:¬ fo E L P vs ib:=fun hk=>by have:=(S.fo_lo hk).1;omega
 have nibO:¬ own E L ib:=fun hk=>nib (.inl hk)
 have hibw:ib < w.heap.size:=by have:=S.base;omega
 have hati:(fr.at_:Int) < m.code.length:=by omega
 have hatd:decide ((fr.at_:Int) < m.code.length)=true:=by simpa using hati
 have hwr:IntKind.i64.wrap ((fr.at_:Int)+1)=(fr.at_:Int)+1:=by rw [Num.wrap_i64,wrap64_id (by unfold Ok;omega)]
 have HCO:=Lib.hid hvc
 clear S iel hi hx hvc i1
 go_enter Tryz.func54,Tryz.ntmps54
 go_wp2_with (go_at_call 104;refine (stepOk (HS.out.below (by exact Rd.byB)).H hs hfu).mono ?_;rintro e w2 ⟨rfl,H2,K2⟩;have S2:=(HS.out.below (w':=w.alloc (.cells #[.int .i64 0,.int .i64 0] 46)) (by exact Rd.byB)).heap K2 same_own H2;have r0:=K2.cell (c:=w.heap.size) (o:=0) (v:=.int .i64 0) (by go_simp) nrO;have r1:=K2.cell (c:=w.heap.size) (o:=1) (v:=.int .i64 0) (by go_simp) nrO;have rf0:=K2.frz (c:=w.heap.size) (o:=0) (b:=false) (by go_simp) (by simp) nrO;have rf1:=K2.frz (c:=w.heap.size) (o:=1) (b:=false) (by go_simp) (by simp) nrO;have z0:=S2.c0;have z11:=S2.c11;have z7:=S2.c7;rw [HCO.out] at z7;have u0:=K2.cell (c:=ib) (o:=io+fr.at_*6) (v:=.int .i64 (13)) (by go_simp) nibO;have u1:=K2.cell (c:=ib) (o:=io+fr.at_*6+1) (v:=.int .i64 a) (by go_simp) nibO;have u2:=K2.cell (c:=ib) (o:=io+fr.at_*6+2) (v:=.int .i64 b) (by go_simp) nibO;have u3:=K2.cell (c:=ib) (o:=io+fr.at_*6+3) (v:=.int .i64 c) (by go_simp) nibO;have u4:=K2.cell (c:=ib) (o:=io+fr.at_*6+4) (v:=.int .i64 n) (by go_simp) nibO;have u5:=K2.cell (c:=ib) (o:=io+fr.at_*6+5) (v:=.slice aa args.length acap) (by go_simp) nibO;have GW:=Lib.hid (show Gr E L P vs w L vs w2 from ⟨(Kp.of_below (B:=w.heap.size) (X:=fo E L P vs) (w':=w.alloc (.cells #[.int .i64 0,.int .i64 0] 46)) (by exact Rd.byB) (Nat.le_refl _)).trans K2 (fun y hy=>.inl (.inl hy)),fun _ q=>.inl q,fun _ q=>.inl q⟩);have nf2:=S2.fo_new (Nat.le_refl _);have hcb2:=S2.cbw;have hrw:=cell_lt r0;have hib2:=cell_lt u0;replace S2:=Lib.hid S2;clear H2 K2 c7 c0 c11 x0 x1 x2 x3 x4 x5)
 refine Drawn.hd (fun w'=>w'.cell? ⟨P.cb,11,none⟩=some (.int .i64 fr.at_)∧w'.cell? ⟨P.cb,7,none⟩=some (.slice (some ⟨ib,io,none⟩) m.code.length icap)) (h:=fun hHeld=>?_)
 refine Drawn.T 0 (some 12) (h:=?_)
 refine Drawn.T 1 (some 13) (h:=?_)
 refine Drawn.T 2 (some 14) (h:=?_)
 refine Drawn.T 3 (some 15) (h:=?_)
 refine Drawn.T 4 (some 16) (h:=?_)
 refine Drawn.T 5 (some 17) (h:=?_)
 refine Drawn.T 6 (some 18) (h:=?_)
 refine Drawn.T 7 (some 19) (h:=?_)
 refine Drawn.T 8 (some 20) (h:=?_)
 refine Drawn.T 9 (some 21) (h:=?_)
 refine Drawn.T 10 (some 22) (h:=?_)
 refine Drawn.cl 11 (fun K hK=>?_)
 go_simp
 refine (mustT _).mono ?_
 rintro e w3 ⟨rfl,rfl⟩
 go_wp2_with fail
 refine Drawn.bk hK (h:=fun hHeld=>?_)
 clear hK K
 refine wpAnyH_done (by kernel_rfl) ?_ _
 go_wp2_with fail
 refine Drawn.hd (fun w'=>w'.cell? ⟨P.cb,11,none⟩=some (.int .i64 fr.at_)∧w'.cell? ⟨P.cb,7,none⟩=some (.slice (some ⟨ib,io,none⟩) m.code.length icap)∧w'.cell? ⟨ib,io+fr.at_*6,none⟩=some (.int .i64 13)∧w'.cell? ⟨ib,io+fr.at_*6+1,none⟩=some (.int .i64 a)∧w'.cell? ⟨ib,io+fr.at_*6+2,none⟩=some (.int .i64 b)∧w'.cell? ⟨ib,io+fr.at_*6+3,none⟩=some (.int .i64 c)∧w'.cell? ⟨ib,io+fr.at_*6+4,none⟩=some (.int .i64 n)∧w'.cell? ⟨ib,io+fr.at_*6+5,none⟩=some (.slice aa args.length acap)) (h:=fun hHeld=>?_)
 refine Drawn.T 0 (some 24) (h:=?_)
 refine Drawn.T 1 (some 25) (h:=?_)
 refine Drawn.T 2 (some 26) (h:=?_)
 refine Drawn.T 3 (some 27) (h:=?_)
 refine Drawn.T 4 (some 28) (h:=?_)
 refine Drawn.T 5 (some 29) (h:=?_)
 refine Drawn.T 6 (some 30) (h:=?_)
 refine Drawn.T 7 (some 31) (h:=?_)
 refine Drawn.T 8 (some 32) (h:=?_)
 refine Drawn.T 9 (some 33) (h:=?_)
 refine Drawn.T 10 (some 34) (h:=?_)
 refine Drawn.cl 11 (fun K hK=>?_)
 go_simp
 refine Drawn.bk hK (h:=fun hHeld=>?_)
 clear hK K
 refine Drawn.cl 12 (fun K hK=>?_)
 go_simp
 refine Drawn.bk hK (h:=fun hHeld=>?_)
 clear hK K
 refine wpAnyH_done (by kernel_rfl) ?_ _
 generalize hWW:World.drew _=W
 replace hWW:=Lib.hid hWW
 have k0:W.cell? ⟨w2.heap.size,0,none⟩=some (.int .i64 (13)):=by rw [← hWW.out];go_simp
 have k1:W.cell? ⟨w2.heap.size,1,none⟩=some (.int .i64 a):=by rw [← hWW.out];go_simp
 have k2:W.cell? ⟨w2.heap.size,2,none⟩=some (.int .i64 b):=by rw [← hWW.out];go_simp
 have k3:W.cell? ⟨w2.heap.size,3,none⟩=some (.int .i64 c):=by rw [← hWW.out];go_simp
 have k4:W.cell? ⟨w2.heap.size,4,none⟩=some (.int .i64 n):=by rw [← hWW.out];go_simp
 have k5:W.cell? ⟨w2.heap.size,5,none⟩=some (.slice aa args.length acap):=by rw [← hWW.out];go_simp
 have hbW:Below w2.heap.size w2 W:=by rw [← hWW.out];exact Rd.byB
 have hzW:w2.heap.size < W.heap.size:=cell_lt k0
 have SW:=S2.out.below hbW
 have s0:=kept hbW hrw r0
 have s1:=kept hbW hrw r1
 have sf0:=frz_kept hbW hrw rf0
 have sf1:=frz_kept hbW hrw rf1
 have e0:=SW.c0
 have e11:=SW.c11
 have ef11:=SW.fz 11 (by decide)
 have hcbW:=SW.cbw
 have hrW:w.heap.size < W.heap.size:=by omega
 have G:=Lib.hid (GW.out.trans (Gr.of_below hbW))
 replace SW:=Lib.hid SW
 clear hWW r0 r1 rf0 rf1 z0 z11 z7 u0 u1 u2 u3 u4 u5 GW hbW S2
 go_wp2_with fail
 go_at_call 107
 refine (takeNo (SW.out.below (by exact Rd.byB)) hn _).mono ?_
 rintro e w4 ⟨rfl,hb4⟩
 have HB4:Below W.heap.size W w4:=Below.trans (by exact Rd.byB) (hb4.mono Rd.byL)
 unfold pan
 refine And.intro rfl ?_
 exact ⟨Pan.one _,((G.out.trans (Gr.of_below HB4)).lft (SW.out.below HB4)).stop⟩
set_option maxRecDepth 100000 in
theorem do13b (S:ST E w L P m d h fr vs) (hbig:fr.stk.length≤1000) (hatb:fr.at_≤100000) (hs:h.steps < E.fuel) (hfu:E.fuel≤60000) (a b c n:Int) (args:List Int) (hi:m.code[fr.at_]? = some ⟨13,a,b,c,n,args⟩) (hn:fr.stk≠[]) (hk:(top fr.stk).kind≠3) :
  Calls Tryz.prog 54 #[.pointer (some ⟨P.cb,0,none⟩)] w (DoR E L P m d vs fr w (.stop 6 (stepped h))):=by
 have HS:=Lib.hid S
 have hcb:=S.cbw
 have hat:fr.at_ < m.code.length:=(List.getElem?_eq_some_iff.1 hi).1
 obtain ⟨ica,icap,hvc,i1,i2,iel⟩:=id S.M.co
 obtain ⟨ib,io,rfl,hib,hie⟩:=iel fr.at_ hat
 have hx:m.code[fr.at_]=⟨13,a,b,c,n,args⟩:=by rw [List.getElem?_eq_getElem hat] at hi;exact Option.some.inj hi
 rw [hx] at hie
 obtain ⟨x0,x1,x2,x3,x4,_,va,x5,hva⟩:=hie
 obtain ⟨aa,acap,rfl,_⟩:=hva
 simp only at x0 x1 x2 x3 x4
 have c7:=S.c7
 rw [hvc] at c7
 have c0:=S.c0
 have c11:=S.c11
 have nr:=S.fo_new (Nat.le_refl _)
 have nrO:¬ own E L w.heap.size:=fun hk=>nr (.inl hk)
 have nib:¬ fo E L P vs ib:=fun hk=>by have:=(S.fo_lo hk).1;omega
 have nibO:¬ own E L ib:=fun hk=>nib (.inl hk)
 have hibw:ib < w.heap.size:=by have:=S.base;omega
 have hati:(fr.at_:Int) < m.code.length:=by omega
 have hatd:decide ((fr.at_:Int) < m.code.length)=true:=by simpa using hati
 have hwr:IntKind.i64.wrap ((fr.at_:Int)+1)=(fr.at_:Int)+1:=by rw [Num.wrap_i64,wrap64_id (by unfold Ok;omega)]
 have HCO:=Lib.hid hvc
 clear S iel hi hx hvc i1
 go_enter Tryz.func54,Tryz.ntmps54
 go_wp2_with (go_at_call 104;refine (stepOk (HS.out.below (by exact Rd.byB)).H hs hfu).mono ?_;rintro e w2 ⟨rfl,H2,K2⟩;have S2:=(HS.out.below (w':=w.alloc (.cells #[.int .i64 0,.int .i64 0] 46)) (by exact Rd.byB)).heap K2 same_own H2;have r0:=K2.cell (c:=w.heap.size) (o:=0) (v:=.int .i64 0) (by go_simp) nrO;have r1:=K2.cell (c:=w.heap.size) (o:=1) (v:=.int .i64 0) (by go_simp) nrO;have rf0:=K2.frz (c:=w.heap.size) (o:=0) (b:=false) (by go_simp) (by simp) nrO;have rf1:=K2.frz (c:=w.heap.size) (o:=1) (b:=false) (by go_simp) (by simp) nrO;have z0:=S2.c0;have z11:=S2.c11;have z7:=S2.c7;rw [HCO.out] at z7;have u0:=K2.cell (c:=ib) (o:=io+fr.at_*6) (v:=.int .i64 (13)) (by go_simp) nibO;have u1:=K2.cell (c:=ib) (o:=io+fr.at_*6+1) (v:=.int .i64 a) (by go_simp) nibO;have u2:=K2.cell (c:=ib) (o:=io+fr.at_*6+2) (v:=.int .i64 b) (by go_simp) nibO;have u3:=K2.cell (c:=ib) (o:=io+fr.at_*6+3) (v:=.int .i64 c) (by go_simp) nibO;have u4:=K2.cell (c:=ib) (o:=io+fr.at_*6+4) (v:=.int .i64 n) (by go_simp) nibO;have u5:=K2.cell (c:=ib) (o:=io+fr.at_*6+5) (v:=.slice aa args.length acap) (by go_simp) nibO;have GW:=Lib.hid (show Gr E L P vs w L vs w2 from ⟨(Kp.of_below (B:=w.heap.size) (X:=fo E L P vs) (w':=w.alloc (.cells #[.int .i64 0,.int .i64 0] 46)) (by exact Rd.byB) (Nat.le_refl _)).trans K2 (fun y hy=>.inl (.inl hy)),fun _ q=>.inl q,fun _ q=>.inl q⟩);have nf2:=S2.fo_new (Nat.le_refl _);have hcb2:=S2.cbw;have hrw:=cell_lt r0;have hib2:=cell_lt u0;replace S2:=Lib.hid S2;clear H2 K2 c7 c0 c11 x0 x1 x2 x3 x4 x5)
 refine Drawn.hd (fun w'=>w'.cell? ⟨P.cb,11,none⟩=some (.int .i64 fr.at_)∧w'.cell? ⟨P.cb,7,none⟩=some (.slice (some ⟨ib,io,none⟩) m.code.length icap)) (h:=fun hHeld=>?_)
 refine Drawn.T 0 (some 12) (h:=?_)
 refine Drawn.T 1 (some 13) (h:=?_)
 refine Drawn.T 2 (some 14) (h:=?_)
 refine Drawn.T 3 (some 15) (h:=?_)
 refine Drawn.T 4 (some 16) (h:=?_)
 refine Drawn.T 5 (some 17) (h:=?_)
 refine Drawn.T 6 (some 18) (h:=?_)
 refine Drawn.T 7 (some 19) (h:=?_)
 refine Drawn.T 8 (some 20) (h:=?_)
 refine Drawn.T 9 (some 21) (h:=?_)
 refine Drawn.T 10 (some 22) (h:=?_)
 refine Drawn.cl 11 (fun K hK=>?_)
 go_simp
 refine (mustT _).mono ?_
 rintro e w3 ⟨rfl,rfl⟩
 go_wp2_with fail
 refine Drawn.bk hK (h:=fun hHeld=>?_)
 clear hK K
 refine wpAnyH_done (by kernel_rfl) ?_ _
 go_wp2_with fail
 refine Drawn.hd (fun w'=>w'.cell? ⟨P.cb,11,none⟩=some (.int .i64 fr.at_)∧w'.cell? ⟨P.cb,7,none⟩=some (.slice (some ⟨ib,io,none⟩) m.code.length icap)∧w'.cell? ⟨ib,io+fr.at_*6,none⟩=some (.int .i64 13)∧w'.cell? ⟨ib,io+fr.at_*6+1,none⟩=some (.int .i64 a)∧w'.cell? ⟨ib,io+fr.at_*6+2,none⟩=some (.int .i64 b)∧w'.cell? ⟨ib,io+fr.at_*6+3,none⟩=some (.int .i64 c)∧w'.cell? ⟨ib,io+fr.at_*6+4,none⟩=some (.int .i64 n)∧w'.cell? ⟨ib,io+fr.at_*6+5,none⟩=some (.slice aa args.length acap)) (h:=fun hHeld=>?_)
 refine Drawn.T 0 (some 24) (h:=?_)
 refine Drawn.T 1 (some 25) (h:=?_)
 refine Drawn.T 2 (some 26) (h:=?_)
 refine Drawn.T 3 (some 27) (h:=?_)
 refine Drawn.T 4 (some 28) (h:=?_)
 refine Drawn.T 5 (some 29) (h:=?_)
 refine Drawn.T 6 (some 30) (h:=?_)
 refine Drawn.T 7 (some 31) (h:=?_)
 refine Drawn.T 8 (some 32) (h:=?_)
 refine Drawn.T 9 (some 33) (h:=?_)
 refine Drawn.T 10 (some 34) (h:=?_)
 refine Drawn.cl 11 (fun K hK=>?_)
 go_simp
 refine Drawn.bk hK (h:=fun hHeld=>?_)
 clear hK K
 refine Drawn.cl 12 (fun K hK=>?_)
 go_simp
 refine Drawn.bk hK (h:=fun hHeld=>?_)
 clear hK K
 refine wpAnyH_done (by kernel_rfl) ?_ _
 generalize hWW:World.drew _=W
 replace hWW:=Lib.hid hWW
 have k0:W.cell? ⟨w2.heap.size,0,none⟩=some (.int .i64 (13)):=by rw [← hWW.out];go_simp
 have k1:W.cell? ⟨w2.heap.size,1,none⟩=some (.int .i64 a):=by rw [← hWW.out];go_simp
 have k2:W.cell? ⟨w2.heap.size,2,none⟩=some (.int .i64 b):=by rw [← hWW.out];go_simp
 have k3:W.cell? ⟨w2.heap.size,3,none⟩=some (.int .i64 c):=by rw [← hWW.out];go_simp
 have k4:W.cell? ⟨w2.heap.size,4,none⟩=some (.int .i64 n):=by rw [← hWW.out];go_simp
 have k5:W.cell? ⟨w2.heap.size,5,none⟩=some (.slice aa args.length acap):=by rw [← hWW.out];go_simp
 have hbW:Below w2.heap.size w2 W:=by rw [← hWW.out];exact Rd.byB
 have hzW:w2.heap.size < W.heap.size:=cell_lt k0
 have SW:=S2.out.below hbW
 have s0:=kept hbW hrw r0
 have s1:=kept hbW hrw r1
 have sf0:=frz_kept hbW hrw rf0
 have sf1:=frz_kept hbW hrw rf1
 have e0:=SW.c0
 have e11:=SW.c11
 have ef11:=SW.fz 11 (by decide)
 have hcbW:=SW.cbw
 have hrW:w.heap.size < W.heap.size:=by omega
 have G:=Lib.hid (GW.out.trans (Gr.of_below hbW))
 replace SW:=Lib.hid SW
 clear hWW r0 r1 rf0 rf1 z0 z11 z7 u0 u1 u2 u3 u4 u5 GW hbW S2
 go_wp2_with fail
 go_at_call 107
 refine (takeBad (SW.out.below (by exact Rd.byB)) hn hbig _ hk).mono ?_
 rintro e w4 ⟨rfl,A⟩
 obtain ⟨L4,v4,G4,S4⟩:=(LftF.before (w:=W) (by exact Rd.byB) A).opn
 unfold pan
 refine And.intro rfl ?_
 exact ⟨Pan.one _,((G.out.trans G4).lft S4).stop⟩
set_option maxRecDepth 100000 in
theorem do13t (S:ST E w L P m d h fr vs) (hbig:fr.stk.length≤1000) (hatb:fr.at_≤100000) (hs:h.steps < E.fuel) (hfu:E.fuel≤60000) (a b c n:Int) (args:List Int) (hi:m.code[fr.at_]? = some ⟨13,a,b,c,n,args⟩) (hn:fr.stk≠[]) (hk:(top fr.stk).kind=3) (ha:0≤a) (hlt:(top fr.stk).n < 0) :
  Calls Tryz.prog 54 #[.pointer (some ⟨P.cb,0,none⟩)] w (DoR E L P m d vs fr w (.go ⟨fr.loc,fr.stk.dropLast,a.toNat⟩ (stepped h))):=by
 obtain ⟨a,rfl⟩:=Int.eq_ofNat_of_zero_le ha
 obtain ⟨⟨tk,tn⟩,ht⟩:∃ t,Hid (top fr.stk=t):=⟨_,Lib.hid rfl⟩
 rw [ht.out] at hk
 simp only at hk
 subst hk
 have hfl:=fieldN
 have hd:decide (tn < 0)=true:=by rw [ht.out] at hlt;simpa using hlt
 clear hlt
 have HS:=Lib.hid S
 have hcb:=S.cbw
 have hat:fr.at_ < m.code.length:=(List.getElem?_eq_some_iff.1 hi).1
 obtain ⟨ica,icap,hvc,i1,i2,iel⟩:=id S.M.co
 obtain ⟨ib,io,rfl,hib,hie⟩:=iel fr.at_ hat
 have hx:m.code[fr.at_]=⟨13,a,b,c,n,args⟩:=by rw [List.getElem?_eq_getElem hat] at hi;exact Option.some.inj hi
 rw [hx] at hie
 obtain ⟨x0,x1,x2,x3,x4,_,va,x5,hva⟩:=hie
 obtain ⟨aa,acap,rfl,_⟩:=hva
 simp only at x0 x1 x2 x3 x4
 have c7:=S.c7
 rw [hvc] at c7
 have c0:=S.c0
 have c11:=S.c11
 have nr:=S.fo_new (Nat.le_refl _)
 have nrO:¬ own E L w.heap.size:=fun hk=>nr (.inl hk)
 have nib:¬ fo E L P vs ib:=fun hk=>by have:=(S.fo_lo hk).1;omega
 have nibO:¬ own E L ib:=fun hk=>nib (.inl hk)
 have hibw:ib < w.heap.size:=by have:=S.base;omega
 have hati:(fr.at_:Int) < m.code.length:=by omega
 have hatd:decide ((fr.at_:Int) < m.code.length)=true:=by simpa using hati
 have hwr:IntKind.i64.wrap ((fr.at_:Int)+1)=(fr.at_:Int)+1:=by rw [Num.wrap_i64,wrap64_id (by unfold Ok;omega)]
 have HCO:=Lib.hid hvc
 clear S iel hi hx hvc i1
 go_enter Tryz.func54,Tryz.ntmps54
 go_wp2_with (go_at_call 104;refine (stepOk (HS.out.below (by exact Rd.byB)).H hs hfu).mono ?_;rintro e w2 ⟨rfl,H2,K2⟩;have S2:=(HS.out.below (w':=w.alloc (.cells #[.int .i64 0,.int .i64 0] 46)) (by exact Rd.byB)).heap K2 same_own H2;have r0:=K2.cell (c:=w.heap.size) (o:=0) (v:=.int .i64 0) (by go_simp) nrO;have r1:=K2.cell (c:=w.heap.size) (o:=1) (v:=.int .i64 0) (by go_simp) nrO;have rf0:=K2.frz (c:=w.heap.size) (o:=0) (b:=false) (by go_simp) (by simp) nrO;have rf1:=K2.frz (c:=w.heap.size) (o:=1) (b:=false) (by go_simp) (by simp) nrO;have z0:=S2.c0;have z11:=S2.c11;have z7:=S2.c7;rw [HCO.out] at z7;have u0:=K2.cell (c:=ib) (o:=io+fr.at_*6) (v:=.int .i64 (13)) (by go_simp) nibO;have u1:=K2.cell (c:=ib) (o:=io+fr.at_*6+1) (v:=.int .i64 a) (by go_simp) nibO;have u2:=K2.cell (c:=ib) (o:=io+fr.at_*6+2) (v:=.int .i64 b) (by go_simp) nibO;have u3:=K2.cell (c:=ib) (o:=io+fr.at_*6+3) (v:=.int .i64 c) (by go_simp) nibO;have u4:=K2.cell (c:=ib) (o:=io+fr.at_*6+4) (v:=.int .i64 n) (by go_simp) nibO;have u5:=K2.cell (c:=ib) (o:=io+fr.at_*6+5) (v:=.slice aa args.length acap) (by go_simp) nibO;have GW:=Lib.hid (show Gr E L P vs w L vs w2 from ⟨(Kp.of_below (B:=w.heap.size) (X:=fo E L P vs) (w':=w.alloc (.cells #[.int .i64 0,.int .i64 0] 46)) (by exact Rd.byB) (Nat.le_refl _)).trans K2 (fun y hy=>.inl (.inl hy)),fun _ q=>.inl q,fun _ q=>.inl q⟩);have nf2:=S2.fo_new (Nat.le_refl _);have hcb2:=S2.cbw;have hrw:=cell_lt r0;have hib2:=cell_lt u0;replace S2:=Lib.hid S2;clear H2 K2 c7 c0 c11 x0 x1 x2 x3 x4 x5)
 refine Drawn.hd (fun w'=>w'.cell? ⟨P.cb,11,none⟩=some (.int .i64 fr.at_)∧w'.cell? ⟨P.cb,7,none⟩=some (.slice (some ⟨ib,io,none⟩) m.code.length icap)) (h:=fun hHeld=>?_)
 refine Drawn.T 0 (some 12) (h:=?_)
 refine Drawn.T 1 (some 13) (h:=?_)
 refine Drawn.T 2 (some 14) (h:=?_)
 refine Drawn.T 3 (some 15) (h:=?_)
 refine Drawn.T 4 (some 16) (h:=?_)
 refine Drawn.T 5 (some 17) (h:=?_)
 refine Drawn.T 6 (some 18) (h:=?_)
 refine Drawn.T 7 (some 19) (h:=?_)
 refine Drawn.T 8 (some 20) (h:=?_)
 refine Drawn.T 9 (some 21) (h:=?_)
 refine Drawn.T 10 (some 22) (h:=?_)
 refine Drawn.cl 11 (fun K hK=>?_)
 go_simp
 refine (mustT _).mono ?_
 rintro e w3 ⟨rfl,rfl⟩
 go_wp2_with fail
 refine Drawn.bk hK (h:=fun hHeld=>?_)
 clear hK K
 refine wpAnyH_done (by kernel_rfl) ?_ _
 go_wp2_with fail
 refine Drawn.hd (fun w'=>w'.cell? ⟨P.cb,11,none⟩=some (.int .i64 fr.at_)∧w'.cell? ⟨P.cb,7,none⟩=some (.slice (some ⟨ib,io,none⟩) m.code.length icap)∧w'.cell? ⟨ib,io+fr.at_*6,none⟩=some (.int .i64 13)∧w'.cell? ⟨ib,io+fr.at_*6+1,none⟩=some (.int .i64 a)∧w'.cell? ⟨ib,io+fr.at_*6+2,none⟩=some (.int .i64 b)∧w'.cell? ⟨ib,io+fr.at_*6+3,none⟩=some (.int .i64 c)∧w'.cell? ⟨ib,io+fr.at_*6+4,none⟩=some (.int .i64 n)∧w'.cell? ⟨ib,io+fr.at_*6+5,none⟩=some (.slice aa args.length acap)) (h:=fun hHeld=>?_)
 refine Drawn.T 0 (some 24) (h:=?_)
 refine Drawn.T 1 (some 25) (h:=?_)
 refine Drawn.T 2 (some 26) (h:=?_)
 refine Drawn.T 3 (some 27) (h:=?_)
 refine Drawn.T 4 (some 28) (h:=?_)
 refine Drawn.T 5 (some 29) (h:=?_)
 refine Drawn.T 6 (some 30) (h:=?_)
 refine Drawn.T 7 (some 31) (h:=?_)
 refine Drawn.T 8 (some 32) (h:=?_)
 refine Drawn.T 9 (some 33) (h:=?_)
 refine Drawn.T 10 (some 34) (h:=?_)
 refine Drawn.cl 11 (fun K hK=>?_)
 go_simp
 refine Drawn.bk hK (h:=fun hHeld=>?_)
 clear hK K
 refine Drawn.cl 12 (fun K hK=>?_)
 go_simp
 refine Drawn.bk hK (h:=fun hHeld=>?_)
 clear hK K
 refine wpAnyH_done (by kernel_rfl) ?_ _
 generalize hWW:World.drew _=W
 replace hWW:=Lib.hid hWW
 have k0:W.cell? ⟨w2.heap.size,0,none⟩=some (.int .i64 (13)):=by rw [← hWW.out];go_simp
 have k1:W.cell? ⟨w2.heap.size,1,none⟩=some (.int .i64 a):=by rw [← hWW.out];go_simp
 have k2:W.cell? ⟨w2.heap.size,2,none⟩=some (.int .i64 b):=by rw [← hWW.out];go_simp
 have k3:W.cell? ⟨w2.heap.size,3,none⟩=some (.int .i64 c):=by rw [← hWW.out];go_simp
 have k4:W.cell? ⟨w2.heap.size,4,none⟩=some (.int .i64 n):=by rw [← hWW.out];go_simp
 have k5:W.cell? ⟨w2.heap.size,5,none⟩=some (.slice aa args.length acap):=by rw [← hWW.out];go_simp
 have hbW:Below w2.heap.size w2 W:=by rw [← hWW.out];exact Rd.byB
 have hzW:w2.heap.size < W.heap.size:=cell_lt k0
 have SW:=S2.out.below hbW
 have s0:=kept hbW hrw r0
 have s1:=kept hbW hrw r1
 have sf0:=frz_kept hbW hrw rf0
 have sf1:=frz_kept hbW hrw rf1
 have e0:=SW.c0
 have e11:=SW.c11
 have ef11:=SW.fz 11 (by decide)
 have hcbW:=SW.cbw
 have hrW:w.heap.size < W.heap.size:=by omega
 have G:=Lib.hid (GW.out.trans (Gr.of_below hbW))
 replace SW:=Lib.hid SW
 clear hWW r0 r1 rf0 rf1 z0 z11 z7 u0 u1 u2 u3 u4 u5 GW hbW S2
 go_wp2_with fail
 go_at_call 107
 refine (takeOk (SW.out.below (by exact Rd.byB)) hn hbig _ (by rw [ht.out])).mono ?_
 rw [ht.out]
 unfold vl
 rintro e w4 ⟨rfl,A⟩
 obtain ⟨L4,v4,G4,S4⟩:=A.opn
 have y1:=G4.cell (b:=w2.heap.size) (o:=1) (v:=.int .i64 a) nf2 (by go_simp)
 have y2:=G4.cell (b:=w2.heap.size) (o:=2) (v:=.int .i64 b) nf2 (by go_simp)
 have t0:=G4.cell (b:=w.heap.size) (o:=0) (v:=.int .i64 0) nr (by go_simp)
 have t1:=G4.cell (b:=w.heap.size) (o:=1) (v:=.int .i64 0) nr (by go_simp)
 have tf0:=G4.frz (b:=w.heap.size) (o:=0) (x:=false) nr (by first | omega | (simp;omega)) (by go_simp)
 have tf1:=G4.frz (b:=w.heap.size) (o:=1) (x:=false) nr (by first | omega | (simp;omega)) (by go_simp)
 have nr4:=G4.nf (by first | omega | (simp;omega)) nr
 have GB:=Lib.hid ((G.out.trans (Gr.of_below (by exact Rd.byB))).trans G4)
 have hrw4:=cell_lt t0
 replace S4:=Lib.hid S4
 clear A G4 s0 s1 sf0 sf1 k0 k1 k2 k3 k4 k5 e0 e11 ef11
 have e11':=S4.out.c11
 have ef11':=S4.out.fz 11 (by decide)
 have hcb':=S4.out.cbw
 go_wp2_with fail
 refine bodyPost_ret (v:=.tuple #[.agg #[.int .i64 0,.int .i64 0],.bool false]) (by simp [results,Tryz.results54,go_sem] <;> go_simp) rfl ?_
 obtain ⟨L8,v8,G8,S8⟩:=(S4.out.setAt (a)).opn
 exact ⟨rfl,Gr.upon HS.out (GB.out.trans G8) S8 (Nat.le_refl _) (G8.nf hrw4 nr4) _ _⟩
set_option maxRecDepth 100000 in
theorem do13f (S:ST E w L P m d h fr vs) (hbig:fr.stk.length≤1000) (hatb:fr.at_≤100000) (hs:h.steps < E.fuel) (hfu:E.fuel≤60000) (a b c n:Int) (args:List Int) (hi:m.code[fr.at_]? = some ⟨13,a,b,c,n,args⟩) (hn:fr.stk≠[]) (hk:(top fr.stk).kind=3) (ha:0≤a) (hlt:¬ (top fr.stk).n < 0) :
  Calls Tryz.prog 54 #[.pointer (some ⟨P.cb,0,none⟩)] w (DoR E L P m d vs fr w (.go ⟨fr.loc,fr.stk.dropLast,fr.at_+1⟩ (stepped h))):=by
 obtain ⟨a,rfl⟩:=Int.eq_ofNat_of_zero_le ha
 obtain ⟨⟨tk,tn⟩,ht⟩:∃ t,Hid (top fr.stk=t):=⟨_,Lib.hid rfl⟩
 rw [ht.out] at hk
 simp only at hk
 subst hk
 have hfl:=fieldN
 have hd:decide (tn < 0)=false:=by rw [ht.out] at hlt;simpa using hlt
 clear hlt
 have HS:=Lib.hid S
 have hcb:=S.cbw
 have hat:fr.at_ < m.code.length:=(List.getElem?_eq_some_iff.1 hi).1
 obtain ⟨ica,icap,hvc,i1,i2,iel⟩:=id S.M.co
 obtain ⟨ib,io,rfl,hib,hie⟩:=iel fr.at_ hat
 have hx:m.code[fr.at_]=⟨13,a,b,c,n,args⟩:=by rw [List.getElem?_eq_getElem hat] at hi;exact Option.some.inj hi
 rw [hx] at hie
 obtain ⟨x0,x1,x2,x3,x4,_,va,x5,hva⟩:=hie
 obtain ⟨aa,acap,rfl,_⟩:=hva
 simp only at x0 x1 x2 x3 x4
 have c7:=S.c7
 rw [hvc] at c7
 have c0:=S.c0
 have c11:=S.c11
 have nr:=S.fo_new (Nat.le_refl _)
 have nrO:¬ own E L w.heap.size:=fun hk=>nr (.inl hk)
 have nib:¬ fo E L P vs ib:=fun hk=>by have:=(S.fo_lo hk).1;omega
 have nibO:¬ own E L ib:=fun hk=>nib (.inl hk)
 have hibw:ib < w.heap.size:=by have:=S.base;omega
 have hati:(fr.at_:Int) < m.code.length:=by omega
 have hatd:decide ((fr.at_:Int) < m.code.length)=true:=by simpa using hati
 have hwr:IntKind.i64.wrap ((fr.at_:Int)+1)=(fr.at_:Int)+1:=by rw [Num.wrap_i64,wrap64_id (by unfold Ok;omega)]
 have HCO:=Lib.hid hvc
 clear S iel hi hx hvc i1
 go_enter Tryz.func54,Tryz.ntmps54
 go_wp2_with (go_at_call 104;refine (stepOk (HS.out.below (by exact Rd.byB)).H hs hfu).mono ?_;rintro e w2 ⟨rfl,H2,K2⟩;have S2:=(HS.out.below (w':=w.alloc (.cells #[.int .i64 0,.int .i64 0] 46)) (by exact Rd.byB)).heap K2 same_own H2;have r0:=K2.cell (c:=w.heap.size) (o:=0) (v:=.int .i64 0) (by go_simp) nrO;have r1:=K2.cell (c:=w.heap.size) (o:=1) (v:=.int .i64 0) (by go_simp) nrO;have rf0:=K2.frz (c:=w.heap.size) (o:=0) (b:=false) (by go_simp) (by simp) nrO;have rf1:=K2.frz (c:=w.heap.size) (o:=1) (b:=false) (by go_simp) (by simp) nrO;have z0:=S2.c0;have z11:=S2.c11;have z7:=S2.c7;rw [HCO.out] at z7;have u0:=K2.cell (c:=ib) (o:=io+fr.at_*6) (v:=.int .i64 (13)) (by go_simp) nibO;have u1:=K2.cell (c:=ib) (o:=io+fr.at_*6+1) (v:=.int .i64 a) (by go_simp) nibO;have u2:=K2.cell (c:=ib) (o:=io+fr.at_*6+2) (v:=.int .i64 b) (by go_simp) nibO;have u3:=K2.cell (c:=ib) (o:=io+fr.at_*6+3) (v:=.int .i64 c) (by go_simp) nibO;have u4:=K2.cell (c:=ib) (o:=io+fr.at_*6+4) (v:=.int .i64 n) (by go_simp) nibO;have u5:=K2.cell (c:=ib) (o:=io+fr.at_*6+5) (v:=.slice aa args.length acap) (by go_simp) nibO;have GW:=Lib.hid (show Gr E L P vs w L vs w2 from ⟨(Kp.of_below (B:=w.heap.size) (X:=fo E L P vs) (w':=w.alloc (.cells #[.int .i64 0,.int .i64 0] 46)) (by exact Rd.byB) (Nat.le_refl _)).trans K2 (fun y hy=>.inl (.inl hy)),fun _ q=>.inl q,fun _ q=>.inl q⟩);have nf2:=S2.fo_new (Nat.le_refl _);have hcb2:=S2.cbw;have hrw:=cell_lt r0;have hib2:=cell_lt u0;replace S2:=Lib.hid S2;clear H2 K2 c7 c0 c11 x0 x1 x2 x3 x4 x5)
 refine Drawn.hd (fun w'=>w'.cell? ⟨P.cb,11,none⟩=some (.int .i64 fr.at_)∧w'.cell? ⟨P.cb,7,none⟩=some (.slice (some ⟨ib,io,none⟩) m.code.length icap)) (h:=fun hHeld=>?_)
 refine Drawn.T 0 (some 12) (h:=?_)
 refine Drawn.T 1 (some 13) (h:=?_)
 refine Drawn.T 2 (some 14) (h:=?_)
 refine Drawn.T 3 (some 15) (h:=?_)
 refine Drawn.T 4 (some 16) (h:=?_)
 refine Drawn.T 5 (some 17) (h:=?_)
 refine Drawn.T 6 (some 18) (h:=?_)
 refine Drawn.T 7 (some 19) (h:=?_)
 refine Drawn.T 8 (some 20) (h:=?_)
 refine Drawn.T 9 (some 21) (h:=?_)
 refine Drawn.T 10 (some 22) (h:=?_)
 refine Drawn.cl 11 (fun K hK=>?_)
 go_simp
 refine (mustT _).mono ?_
 rintro e w3 ⟨rfl,rfl⟩
 go_wp2_with fail
 refine Drawn.bk hK (h:=fun hHeld=>?_)
 clear hK K
 refine wpAnyH_done (by kernel_rfl) ?_ _
 go_wp2_with fail
 refine Drawn.hd (fun w'=>w'.cell? ⟨P.cb,11,none⟩=some (.int .i64 fr.at_)∧w'.cell? ⟨P.cb,7,none⟩=some (.slice (some ⟨ib,io,none⟩) m.code.length icap)∧w'.cell? ⟨ib,io+fr.at_*6,none⟩=some (.int .i64 13)∧w'.cell? ⟨ib,io+fr.at_*6+1,none⟩=some (.int .i64 a)∧w'.cell? ⟨ib,io+fr.at_*6+2,none⟩=some (.int .i64 b)∧w'.cell? ⟨ib,io+fr.at_*6+3,none⟩=some (.int .i64 c)∧w'.cell? ⟨ib,io+fr.at_*6+4,none⟩=some (.int .i64 n)∧w'.cell? ⟨ib,io+fr.at_*6+5,none⟩=some (.slice aa args.length acap)) (h:=fun hHeld=>?_)
 refine Drawn.T 0 (some 24) (h:=?_)
 refine Drawn.T 1 (some 25) (h:=?_)
 refine Drawn.T 2 (some 26) (h:=?_)
 refine Drawn.T 3 (some 27) (h:=?_)
 refine Drawn.T 4 (some 28) (h:=?_)
 refine Drawn.T 5 (some 29) (h:=?_)
 refine Drawn.T 6 (some 30) (h:=?_)
 refine Drawn.T 7 (some 31) (h:=?_)
 refine Drawn.T 8 (some 32) (h:=?_)
 refine Drawn.T 9 (some 33) (h:=?_)
 refine Drawn.T 10 (some 34) (h:=?_)
 refine Drawn.cl 11 (fun K hK=>?_)
 go_simp
 refine Drawn.bk hK (h:=fun hHeld=>?_)
 clear hK K
 refine Drawn.cl 12 (fun K hK=>?_)
 go_simp
 refine Drawn.bk hK (h:=fun hHeld=>?_)
 clear hK K
 refine wpAnyH_done (by kernel_rfl) ?_ _
 generalize hWW:World.drew _=W
 replace hWW:=Lib.hid hWW
 have k0:W.cell? ⟨w2.heap.size,0,none⟩=some (.int .i64 (13)):=by rw [← hWW.out];go_simp
 have k1:W.cell? ⟨w2.heap.size,1,none⟩=some (.int .i64 a):=by rw [← hWW.out];go_simp
 have k2:W.cell? ⟨w2.heap.size,2,none⟩=some (.int .i64 b):=by rw [← hWW.out];go_simp
 have k3:W.cell? ⟨w2.heap.size,3,none⟩=some (.int .i64 c):=by rw [← hWW.out];go_simp
 have k4:W.cell? ⟨w2.heap.size,4,none⟩=some (.int .i64 n):=by rw [← hWW.out];go_simp
 have k5:W.cell? ⟨w2.heap.size,5,none⟩=some (.slice aa args.length acap):=by rw [← hWW.out];go_simp
 have hbW:Below w2.heap.size w2 W:=by rw [← hWW.out];exact Rd.byB
 have hzW:w2.heap.size < W.heap.size:=cell_lt k0
 have SW:=S2.out.below hbW
 have s0:=kept hbW hrw r0
 have s1:=kept hbW hrw r1
 have sf0:=frz_kept hbW hrw rf0
 have sf1:=frz_kept hbW hrw rf1
 have e0:=SW.c0
 have e11:=SW.c11
 have ef11:=SW.fz 11 (by decide)
 have hcbW:=SW.cbw
 have hrW:w.heap.size < W.heap.size:=by omega
 have G:=Lib.hid (GW.out.trans (Gr.of_below hbW))
 replace SW:=Lib.hid SW
 clear hWW r0 r1 rf0 rf1 z0 z11 z7 u0 u1 u2 u3 u4 u5 GW hbW S2
 go_wp2_with fail
 go_at_call 107
 refine (takeOk (SW.out.below (by exact Rd.byB)) hn hbig _ (by rw [ht.out])).mono ?_
 rw [ht.out]
 unfold vl
 rintro e w4 ⟨rfl,A⟩
 obtain ⟨L4,v4,G4,S4⟩:=A.opn
 have y1:=G4.cell (b:=w2.heap.size) (o:=1) (v:=.int .i64 a) nf2 (by go_simp)
 have y2:=G4.cell (b:=w2.heap.size) (o:=2) (v:=.int .i64 b) nf2 (by go_simp)
 have t0:=G4.cell (b:=w.heap.size) (o:=0) (v:=.int .i64 0) nr (by go_simp)
 have t1:=G4.cell (b:=w.heap.size) (o:=1) (v:=.int .i64 0) nr (by go_simp)
 have tf0:=G4.frz (b:=w.heap.size) (o:=0) (x:=false) nr (by first | omega | (simp;omega)) (by go_simp)
 have tf1:=G4.frz (b:=w.heap.size) (o:=1) (x:=false) nr (by first | omega | (simp;omega)) (by go_simp)
 have nr4:=G4.nf (by first | omega | (simp;omega)) nr
 have GB:=Lib.hid ((G.out.trans (Gr.of_below (by exact Rd.byB))).trans G4)
 have hrw4:=cell_lt t0
 replace S4:=Lib.hid S4
 clear A G4 s0 s1 sf0 sf1 k0 k1 k2 k3 k4 k5 e0 e11 ef11
 have e11':=S4.out.c11
 have ef11':=S4.out.fz 11 (by decide)
 have hcb':=S4.out.cbw
 go_wp2_with fail
 refine bodyPost_ret (v:=.tuple #[.agg #[.int .i64 0,.int .i64 0],.bool false]) (by simp [results,Tryz.results54,go_sem] <;> go_simp) rfl ?_
 obtain ⟨L8,v8,G8,S8⟩:=(S4.out.setAt (fr.at_+1)).opn
 exact ⟨rfl,Gr.upon HS.out (GB.out.trans G8) S8 (Nat.le_refl _) (G8.nf hrw4 nr4) _ _⟩
set_option maxRecDepth 100000 in
theorem do21n (S:ST E w L P m d h fr vs) (hbig:fr.stk.length≤1000) (hatb:fr.at_≤100000) (hs:h.steps < E.fuel) (hfu:E.fuel≤60000) (a b c n:Int) (args:List Int) (hi:m.code[fr.at_]? = some ⟨21,a,b,c,n,args⟩) (hn:fr.stk=[]) :
  Calls Tryz.prog 54 #[.pointer (some ⟨P.cb,0,none⟩)] w (DoR E L P m d vs fr w (.stop 6 (stepped h))):=by
 have HS:=Lib.hid S
 have hcb:=S.cbw
 have hat:fr.at_ < m.code.length:=(List.getElem?_eq_some_iff.1 hi).1
 obtain ⟨ica,icap,hvc,i1,i2,iel⟩:=id S.M.co
 obtain ⟨ib,io,rfl,hib,hie⟩:=iel fr.at_ hat
 have hx:m.code[fr.at_]=⟨21,a,b,c,n,args⟩:=by rw [List.getElem?_eq_getElem hat] at hi;exact Option.some.inj hi
 rw [hx] at hie
 obtain ⟨x0,x1,x2,x3,x4,_,va,x5,hva⟩:=hie
 obtain ⟨aa,acap,rfl,_⟩:=hva
 simp only at x0 x1 x2 x3 x4
 have c7:=S.c7
 rw [hvc] at c7
 have c0:=S.c0
 have c11:=S.c11
 have nr:=S.fo_new (Nat.le_refl _)
 have nrO:¬ own E L w.heap.size:=fun hk=>nr (.inl hk)
 have nib:¬ fo E L P vs ib:=fun hk=>by have:=(S.fo_lo hk).1;omega
 have nibO:¬ own E L ib:=fun hk=>nib (.inl hk)
 have hibw:ib < w.heap.size:=by have:=S.base;omega
 have hati:(fr.at_:Int) < m.code.length:=by omega
 have hatd:decide ((fr.at_:Int) < m.code.length)=true:=by simpa using hati
 have hwr:IntKind.i64.wrap ((fr.at_:Int)+1)=(fr.at_:Int)+1:=by rw [Num.wrap_i64,wrap64_id (by unfold Ok;omega)]
 have HCO:=Lib.hid hvc
 clear S iel hi hx hvc i1
 go_enter Tryz.func54,Tryz.ntmps54
 go_wp2_with (go_at_call 104;refine (stepOk (HS.out.below (by exact Rd.byB)).H hs hfu).mono ?_;rintro e w2 ⟨rfl,H2,K2⟩;have S2:=(HS.out.below (w':=w.alloc (.cells #[.int .i64 0,.int .i64 0] 46)) (by exact Rd.byB)).heap K2 same_own H2;have r0:=K2.cell (c:=w.heap.size) (o:=0) (v:=.int .i64 0) (by go_simp) nrO;have r1:=K2.cell (c:=w.heap.size) (o:=1) (v:=.int .i64 0) (by go_simp) nrO;have rf0:=K2.frz (c:=w.heap.size) (o:=0) (b:=false) (by go_simp) (by simp) nrO;have rf1:=K2.frz (c:=w.heap.size) (o:=1) (b:=false) (by go_simp) (by simp) nrO;have z0:=S2.c0;have z11:=S2.c11;have z7:=S2.c7;rw [HCO.out] at z7;have u0:=K2.cell (c:=ib) (o:=io+fr.at_*6) (v:=.int .i64 (21)) (by go_simp) nibO;have u1:=K2.cell (c:=ib) (o:=io+fr.at_*6+1) (v:=.int .i64 a) (by go_simp) nibO;have u2:=K2.cell (c:=ib) (o:=io+fr.at_*6+2) (v:=.int .i64 b) (by go_simp) nibO;have u3:=K2.cell (c:=ib) (o:=io+fr.at_*6+3) (v:=.int .i64 c) (by go_simp) nibO;have u4:=K2.cell (c:=ib) (o:=io+fr.at_*6+4) (v:=.int .i64 n) (by go_simp) nibO;have u5:=K2.cell (c:=ib) (o:=io+fr.at_*6+5) (v:=.slice aa args.length acap) (by go_simp) nibO;have GW:=Lib.hid (show Gr E L P vs w L vs w2 from ⟨(Kp.of_below (B:=w.heap.size) (X:=fo E L P vs) (w':=w.alloc (.cells #[.int .i64 0,.int .i64 0] 46)) (by exact Rd.byB) (Nat.le_refl _)).trans K2 (fun y hy=>.inl (.inl hy)),fun _ q=>.inl q,fun _ q=>.inl q⟩);have nf2:=S2.fo_new (Nat.le_refl _);have hcb2:=S2.cbw;have hrw:=cell_lt r0;have hib2:=cell_lt u0;replace S2:=Lib.hid S2;clear H2 K2 c7 c0 c11 x0 x1 x2 x3 x4 x5)
 refine Drawn.hd (fun w'=>w'.cell? ⟨P.cb,11,none⟩=some (.int .i64 fr.at_)∧w'.cell? ⟨P.cb,7,none⟩=some (.slice (some ⟨ib,io,none⟩) m.code.length icap)) (h:=fun hHeld=>?_)
 refine Drawn.T 0 (some 12) (h:=?_)
 refine Drawn.T 1 (some 13) (h:=?_)
 refine Drawn.T 2 (some 14) (h:=?_)
 refine Drawn.T 3 (some 15) (h:=?_)
 refine Drawn.T 4 (some 16) (h:=?_)
 refine Drawn.T 5 (some 17) (h:=?_)
 refine Drawn.T 6 (some 18) (h:=?_)
 refine Drawn.T 7 (some 19) (h:=?_)
 refine Drawn.T 8 (some 20) (h:=?_)
 refine Drawn.T 9 (some 21) (h:=?_)
 refine Drawn.T 10 (some 22) (h:=?_)
 refine Drawn.cl 11 (fun K hK=>?_)
 go_simp
 refine (mustT _).mono ?_
 rintro e w3 ⟨rfl,rfl⟩
 go_wp2_with fail
 refine Drawn.bk hK (h:=fun hHeld=>?_)
 clear hK K
 refine wpAnyH_done (by kernel_rfl) ?_ _
 go_wp2_with fail
 refine Drawn.hd (fun w'=>w'.cell? ⟨P.cb,11,none⟩=some (.int .i64 fr.at_)∧w'.cell? ⟨P.cb,7,none⟩=some (.slice (some ⟨ib,io,none⟩) m.code.length icap)∧w'.cell? ⟨ib,io+fr.at_*6,none⟩=some (.int .i64 21)∧w'.cell? ⟨ib,io+fr.at_*6+1,none⟩=some (.int .i64 a)∧w'.cell? ⟨ib,io+fr.at_*6+2,none⟩=some (.int .i64 b)∧w'.cell? ⟨ib,io+fr.at_*6+3,none⟩=some (.int .i64 c)∧w'.cell? ⟨ib,io+fr.at_*6+4,none⟩=some (.int .i64 n)∧w'.cell? ⟨ib,io+fr.at_*6+5,none⟩=some (.slice aa args.length acap)) (h:=fun hHeld=>?_)
 refine Drawn.T 0 (some 24) (h:=?_)
 refine Drawn.T 1 (some 25) (h:=?_)
 refine Drawn.T 2 (some 26) (h:=?_)
 refine Drawn.T 3 (some 27) (h:=?_)
 refine Drawn.T 4 (some 28) (h:=?_)
 refine Drawn.T 5 (some 29) (h:=?_)
 refine Drawn.T 6 (some 30) (h:=?_)
 refine Drawn.T 7 (some 31) (h:=?_)
 refine Drawn.T 8 (some 32) (h:=?_)
 refine Drawn.T 9 (some 33) (h:=?_)
 refine Drawn.T 10 (some 34) (h:=?_)
 refine Drawn.cl 11 (fun K hK=>?_)
 go_simp
 refine Drawn.bk hK (h:=fun hHeld=>?_)
 clear hK K
 refine Drawn.cl 12 (fun K hK=>?_)
 go_simp
 refine Drawn.bk hK (h:=fun hHeld=>?_)
 clear hK K
 refine wpAnyH_done (by kernel_rfl) ?_ _
 generalize hWW:World.drew _=W
 replace hWW:=Lib.hid hWW
 have k0:W.cell? ⟨w2.heap.size,0,none⟩=some (.int .i64 (21)):=by rw [← hWW.out];go_simp
 have k1:W.cell? ⟨w2.heap.size,1,none⟩=some (.int .i64 a):=by rw [← hWW.out];go_simp
 have k2:W.cell? ⟨w2.heap.size,2,none⟩=some (.int .i64 b):=by rw [← hWW.out];go_simp
 have k3:W.cell? ⟨w2.heap.size,3,none⟩=some (.int .i64 c):=by rw [← hWW.out];go_simp
 have k4:W.cell? ⟨w2.heap.size,4,none⟩=some (.int .i64 n):=by rw [← hWW.out];go_simp
 have k5:W.cell? ⟨w2.heap.size,5,none⟩=some (.slice aa args.length acap):=by rw [← hWW.out];go_simp
 have hbW:Below w2.heap.size w2 W:=by rw [← hWW.out];exact Rd.byB
 have hzW:w2.heap.size < W.heap.size:=cell_lt k0
 have SW:=S2.out.below hbW
 have s0:=kept hbW hrw r0
 have s1:=kept hbW hrw r1
 have sf0:=frz_kept hbW hrw rf0
 have sf1:=frz_kept hbW hrw rf1
 have e0:=SW.c0
 have e11:=SW.c11
 have ef11:=SW.fz 11 (by decide)
 have hcbW:=SW.cbw
 have hrW:w.heap.size < W.heap.size:=by omega
 have G:=Lib.hid (GW.out.trans (Gr.of_below hbW))
 replace SW:=Lib.hid SW
 clear hWW r0 r1 rf0 rf1 z0 z11 z7 u0 u1 u2 u3 u4 u5 GW hbW S2
 go_wp2_with fail
 refine Drawn.hd (fun w'=>w'.cell? ⟨P.cb,0,none⟩=some (.pointer (some ⟨E.hb,0,none⟩))) (h:=fun hHeld=>?_)
 refine Drawn.T 0 (some 100) (h:=?_)
 refine Drawn.T 1 (some 101) (h:=?_)
 refine Drawn.T 2 (some 102) (h:=?_)
 refine Drawn.T 3 (some 103) (h:=?_)
 refine Drawn.T 4 (some 104) (h:=?_)
 refine Drawn.cl 5 (fun K hK=>?_)
 go_simp
 go_at_call 105
 refine (anyNo (SW.out.below (by exact Rd.byB)) hn).mono ?_
 rintro e w4 ⟨rfl,hb4⟩
 have HB4:Below W.heap.size W w4:=Below.trans (by exact Rd.byB) (hb4.mono Rd.byL)
 unfold pan
 refine And.intro rfl ?_
 exact ⟨Pan.one _,((G.out.trans (Gr.of_below HB4)).lft (SW.out.below HB4)).stop⟩
set_option maxRecDepth 100000 in
theorem do21o (S:ST E w L P m d h fr vs) (hbig:fr.stk.length≤1000) (hatb:fr.at_≤100000) (hs:h.steps < E.fuel) (hfu:E.fuel≤60000) (a b c n:Int) (args:List Int) (hi:m.code[fr.at_]? = some ⟨21,a,b,c,n,args⟩) (hn:fr.stk≠[]) (hm:Hier.may E.f.classes=true) :
  Calls Tryz.prog 54 #[.pointer (some ⟨P.cb,0,none⟩)] w (DoR E L P m d vs fr w (oA ((Run.throw E.f.classes (top fr.stk) (stepped h)).act fun (_:Unit) h=>.stop 6 h))):=by
 obtain ⟨⟨tk,tn⟩,ht⟩:∃ t,Hid (top fr.stk=t):=⟨_,Lib.hid rfl⟩
 rw [ht.out]
 obtain ⟨r,hr⟩:∃ r,Hid ((Run.throw E.f.classes ⟨tk,tn⟩ (stepped h):Res Unit)=r):=⟨_,Lib.hid rfl⟩
 rw [hr.out]
 have HS:=Lib.hid S
 have hcb:=S.cbw
 have hat:fr.at_ < m.code.length:=(List.getElem?_eq_some_iff.1 hi).1
 obtain ⟨ica,icap,hvc,i1,i2,iel⟩:=id S.M.co
 obtain ⟨ib,io,rfl,hib,hie⟩:=iel fr.at_ hat
 have hx:m.code[fr.at_]=⟨21,a,b,c,n,args⟩:=by rw [List.getElem?_eq_getElem hat] at hi;exact Option.some.inj hi
 rw [hx] at hie
 obtain ⟨x0,x1,x2,x3,x4,_,va,x5,hva⟩:=hie
 obtain ⟨aa,acap,rfl,_⟩:=hva
 simp only at x0 x1 x2 x3 x4
 have c7:=S.c7
 rw [hvc] at c7
 have c0:=S.c0
 have c11:=S.c11
 have nr:=S.fo_new (Nat.le_refl _)
 have nrO:¬ own E L w.heap.size:=fun hk=>nr (.inl hk)
 have nib:¬ fo E L P vs ib:=fun hk=>by have:=(S.fo_lo hk).1;omega
 have nibO:¬ own E L ib:=fun hk=>nib (.inl hk)
 have hibw:ib < w.heap.size:=by have:=S.base;omega
 have hati:(fr.at_:Int) < m.code.length:=by omega
 have hatd:decide ((fr.at_:Int) < m.code.length)=true:=by simpa using hati
 have hwr:IntKind.i64.wrap ((fr.at_:Int)+1)=(fr.at_:Int)+1:=by rw [Num.wrap_i64,wrap64_id (by unfold Ok;omega)]
 have HCO:=Lib.hid hvc
 clear S iel hi hx hvc i1
 go_enter Tryz.func54,Tryz.ntmps54
 go_wp2_with (go_at_call 104;refine (stepOk (HS.out.below (by exact Rd.byB)).H hs hfu).mono ?_;rintro e w2 ⟨rfl,H2,K2⟩;have S2:=(HS.out.below (w':=w.alloc (.cells #[.int .i64 0,.int .i64 0] 46)) (by exact Rd.byB)).heap K2 same_own H2;have r0:=K2.cell (c:=w.heap.size) (o:=0) (v:=.int .i64 0) (by go_simp) nrO;have r1:=K2.cell (c:=w.heap.size) (o:=1) (v:=.int .i64 0) (by go_simp) nrO;have rf0:=K2.frz (c:=w.heap.size) (o:=0) (b:=false) (by go_simp) (by simp) nrO;have rf1:=K2.frz (c:=w.heap.size) (o:=1) (b:=false) (by go_simp) (by simp) nrO;have z0:=S2.c0;have z11:=S2.c11;have z7:=S2.c7;rw [HCO.out] at z7;have u0:=K2.cell (c:=ib) (o:=io+fr.at_*6) (v:=.int .i64 (21)) (by go_simp) nibO;have u1:=K2.cell (c:=ib) (o:=io+fr.at_*6+1) (v:=.int .i64 a) (by go_simp) nibO;have u2:=K2.cell (c:=ib) (o:=io+fr.at_*6+2) (v:=.int .i64 b) (by go_simp) nibO;have u3:=K2.cell (c:=ib) (o:=io+fr.at_*6+3) (v:=.int .i64 c) (by go_simp) nibO;have u4:=K2.cell (c:=ib) (o:=io+fr.at_*6+4) (v:=.int .i64 n) (by go_simp) nibO;have u5:=K2.cell (c:=ib) (o:=io+fr.at_*6+5) (v:=.slice aa args.length acap) (by go_simp) nibO;have GW:=Lib.hid (show Gr E L P vs w L vs w2 from ⟨(Kp.of_below (B:=w.heap.size) (X:=fo E L P vs) (w':=w.alloc (.cells #[.int .i64 0,.int .i64 0] 46)) (by exact Rd.byB) (Nat.le_refl _)).trans K2 (fun y hy=>.inl (.inl hy)),fun _ q=>.inl q,fun _ q=>.inl q⟩);have nf2:=S2.fo_new (Nat.le_refl _);have hcb2:=S2.cbw;have hrw:=cell_lt r0;have hib2:=cell_lt u0;replace S2:=Lib.hid S2;clear H2 K2 c7 c0 c11 x0 x1 x2 x3 x4 x5)
 refine Drawn.hd (fun w'=>w'.cell? ⟨P.cb,11,none⟩=some (.int .i64 fr.at_)∧w'.cell? ⟨P.cb,7,none⟩=some (.slice (some ⟨ib,io,none⟩) m.code.length icap)) (h:=fun hHeld=>?_)
 refine Drawn.T 0 (some 12) (h:=?_)
 refine Drawn.T 1 (some 13) (h:=?_)
 refine Drawn.T 2 (some 14) (h:=?_)
 refine Drawn.T 3 (some 15) (h:=?_)
 refine Drawn.T 4 (some 16) (h:=?_)
 refine Drawn.T 5 (some 17) (h:=?_)
 refine Drawn.T 6 (some 18) (h:=?_)
 refine Drawn.T 7 (some 19) (h:=?_)
 refine Drawn.T 8 (some 20) (h:=?_)
 refine Drawn.T 9 (some 21) (h:=?_)
 refine Drawn.T 10 (some 22) (h:=?_)
 refine Drawn.cl 11 (fun K hK=>?_)
 go_simp
 refine (mustT _).mono ?_
 rintro e w3 ⟨rfl,rfl⟩
 go_wp2_with fail
 refine Drawn.bk hK (h:=fun hHeld=>?_)
 clear hK K
 refine wpAnyH_done (by kernel_rfl) ?_ _
 go_wp2_with fail
 refine Drawn.hd (fun w'=>w'.cell? ⟨P.cb,11,none⟩=some (.int .i64 fr.at_)∧w'.cell? ⟨P.cb,7,none⟩=some (.slice (some ⟨ib,io,none⟩) m.code.length icap)∧w'.cell? ⟨ib,io+fr.at_*6,none⟩=some (.int .i64 21)∧w'.cell? ⟨ib,io+fr.at_*6+1,none⟩=some (.int .i64 a)∧w'.cell? ⟨ib,io+fr.at_*6+2,none⟩=some (.int .i64 b)∧w'.cell? ⟨ib,io+fr.at_*6+3,none⟩=some (.int .i64 c)∧w'.cell? ⟨ib,io+fr.at_*6+4,none⟩=some (.int .i64 n)∧w'.cell? ⟨ib,io+fr.at_*6+5,none⟩=some (.slice aa args.length acap)) (h:=fun hHeld=>?_)
 refine Drawn.T 0 (some 24) (h:=?_)
 refine Drawn.T 1 (some 25) (h:=?_)
 refine Drawn.T 2 (some 26) (h:=?_)
 refine Drawn.T 3 (some 27) (h:=?_)
 refine Drawn.T 4 (some 28) (h:=?_)
 refine Drawn.T 5 (some 29) (h:=?_)
 refine Drawn.T 6 (some 30) (h:=?_)
 refine Drawn.T 7 (some 31) (h:=?_)
 refine Drawn.T 8 (some 32) (h:=?_)
 refine Drawn.T 9 (some 33) (h:=?_)
 refine Drawn.T 10 (some 34) (h:=?_)
 refine Drawn.cl 11 (fun K hK=>?_)
 go_simp
 refine Drawn.bk hK (h:=fun hHeld=>?_)
 clear hK K
 refine Drawn.cl 12 (fun K hK=>?_)
 go_simp
 refine Drawn.bk hK (h:=fun hHeld=>?_)
 clear hK K
 refine wpAnyH_done (by kernel_rfl) ?_ _
 generalize hWW:World.drew _=W
 replace hWW:=Lib.hid hWW
 have k0:W.cell? ⟨w2.heap.size,0,none⟩=some (.int .i64 (21)):=by rw [← hWW.out];go_simp
 have k1:W.cell? ⟨w2.heap.size,1,none⟩=some (.int .i64 a):=by rw [← hWW.out];go_simp
 have k2:W.cell? ⟨w2.heap.size,2,none⟩=some (.int .i64 b):=by rw [← hWW.out];go_simp
 have k3:W.cell? ⟨w2.heap.size,3,none⟩=some (.int .i64 c):=by rw [← hWW.out];go_simp
 have k4:W.cell? ⟨w2.heap.size,4,none⟩=some (.int .i64 n):=by rw [← hWW.out];go_simp
 have k5:W.cell? ⟨w2.heap.size,5,none⟩=some (.slice aa args.length acap):=by rw [← hWW.out];go_simp
 have hbW:Below w2.heap.size w2 W:=by rw [← hWW.out];exact Rd.byB
 have hzW:w2.heap.size < W.heap.size:=cell_lt k0
 have SW:=S2.out.below hbW
 have s0:=kept hbW hrw r0
 have s1:=kept hbW hrw r1
 have sf0:=frz_kept hbW hrw rf0
 have sf1:=frz_kept hbW hrw rf1
 have e0:=SW.c0
 have e11:=SW.c11
 have ef11:=SW.fz 11 (by decide)
 have hcbW:=SW.cbw
 have hrW:w.heap.size < W.heap.size:=by omega
 have G:=Lib.hid (GW.out.trans (Gr.of_below hbW))
 replace SW:=Lib.hid SW
 clear hWW r0 r1 rf0 rf1 z0 z11 z7 u0 u1 u2 u3 u4 u5 GW hbW S2
 go_wp2_with fail
 refine Drawn.hd (fun w'=>w'.cell? ⟨P.cb,0,none⟩=some (.pointer (some ⟨E.hb,0,none⟩))) (h:=fun hHeld=>?_)
 refine Drawn.T 0 (some 100) (h:=?_)
 refine Drawn.T 1 (some 101) (h:=?_)
 refine Drawn.T 2 (some 102) (h:=?_)
 refine Drawn.T 3 (some 103) (h:=?_)
 refine Drawn.T 4 (some 104) (h:=?_)
 refine Drawn.cl 5 (fun K hK=>?_)
 go_simp
 go_at_call 105
 refine (anyOk (SW.out.below (by exact Rd.byB)) hn hbig).mono ?_
 rw [ht.out]
 unfold vl
 rintro e w4 ⟨rfl,A⟩
 obtain ⟨L4,v4,G4,S4⟩:=A.opn
 have y0:=S4.c0
 have GB:=Lib.hid ((G.out.trans (Gr.of_below (by exact Rd.byB))).trans G4)
 clear A G4
 go_wp2_with fail
 refine Drawn.bk hK (hS:=by (try dsimp only);exact y0) (h:=fun hHeld=>?_)
 clear hK K
 refine Drawn.cl 6 (fun K hK=>?_)
 go_simp
 go_at_call 109
 refine (throwP (V:=unitV) S4.H hm ⟨tk,tn⟩).mono ?_
 rw [hr.out]
 rintro e w5 hR
 cases r with
 | ok x h2=>exact (throw_no hr.out).elim
 | thrown o h2 =>
  obtain ⟨rfl,A⟩:=hR
  obtain ⟨L5,G5,S5⟩:=Gr.of_heap A S4
  unfold pan
  refine And.intro rfl ?_
  exact ⟨Pan.one _,_,(GB.out.trans G5).lft S5⟩
 | stop c2 h2 =>
  obtain ⟨rfl,A⟩:=hR
  obtain ⟨L5,G5,S5⟩:=Gr.of_heap A S4
  unfold pan
  refine And.intro rfl ?_
  exact ⟨Pan.one _,((GB.out.trans G5).lft S5).stop⟩
end
end Hpw
end Go.Proofs.YtncmhenfgbcihabGreat
