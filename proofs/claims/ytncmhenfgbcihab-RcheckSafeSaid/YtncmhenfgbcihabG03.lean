/- Parts of the proof: RefIA. -/
import Derived.Test.YtncmhenfgbcihabG02
set_option linter.unusedSimpArgs false
set_option linter.unusedVariables false
set_option maxHeartbeats 8000000
namespace Go.Proofs.Ytncmhenfgbcihab
open Go.RowKit
namespace RefG
open Num Rd D HierW FormW FormR
set_option maxRecDepth 100000 in
theorem insA (f:Fi) (m:Me) (i:Ins) (vf vm vi:Value) (w:World) (hf:VFi w w.heap.size vf f) (hm:VMe w w.heap.size vm m) (hi:VIns w w.heap.size vi i) (hr:0≤m.regs∧m.regs≤90) (hop:i.op=1∨i.op=2∨i.op=3∨i.op=4∨i.op=5∨i.op=6∨i.op=7∨i.op=8∨i.op=9∨i.op=10∨i.op=11∨i.op=12∨i.op=13∨i.op=16∨i.op=17∨i.op=19∨i.op=21∨i.op=22∨i.op=23∨i.op=24∨i.op=20) :
  Calls Try.prog 59 #[vf,vm,vi] w fun e w'=>e=.returned (.bool (Rform.ins f m i))∧Below w.heap.size w w':=by
 have hf0:=Lib.hid hf;have hm0:=Lib.hid hm;have hi0:=Lib.hid hi;obtain ⟨vc,vme,rfl,⟨ca,ccap,rfl,clc,ccc,cel⟩,⟨ma,mcap,rfl,mlc,mcc,mel⟩⟩:=hf;obtain ⟨vp,vcd,vh,rfl,⟨okr,_,_,_,_⟩,_,⟨da,dcap,rfl,dlc,dcc,_⟩,_⟩:=hm;obtain ⟨va,rfl,⟨oop,oa,ob,oc,on⟩,⟨aa,acap,rfl,alc,acc,ael⟩⟩:=hi;have oki:=Lib.hid (show ∀ j,Ok (pick i.a i.b i.c j) from fun j=>pick_ok j oa ob oc);have hnone:=Lib.hid (Rform.ins_none (f:=f) (m:=m) (i:=i));have hfokp:=Lib.hid (fun k0 k1 k2 j h1 h2=>fok_pick (f:=f) (m:=m) (i:=i) (k0:=k0) (k1:=k1) (k2:=k2) (j:=j) h1 h2);have hop2:=Lib.hid hop;clear hop;obtain ⟨op,a,b,c,n,args⟩:=i;simp only at *
 unfold Ok at oop oa ob oc on;obtain ⟨hr1,hr2⟩:=hr;have hr:=Lib.hid (And.intro hr1 hr2);have cel2:=Lib.hid cel;have mel2:=Lib.hid mel;have ael2:=Lib.hid ael;clear cel mel ael
 go_enter Try.func59,Try.ntmps59
 go_wp2_with fail
 refine (namedB w _ op ?_).mono ?_
 ·exact Rd.byB
 rintro e w1 ⟨hw1,hb1,⟨hk,rfl⟩ | ⟨k0,k1,k2,kn,hk,rfl,hkn,e0,e1,e2⟩⟩
 ·have hX:=Lib.hid (hnone.out hk);clear hop2;clear hk
  go_wp2_with fail
  go_ret;exact ⟨ret_bool hX.out.symm,hw1⟩
 have hkk:=Lib.hid hk;clear hk;simp at hkn;have f0:w1.cell? ⟨w.heap.size,0,none⟩=some (.slice ca f.classes.length ccap):=kept hb1 (by simp <;> omega) (by go_simp)
 have f1:w1.cell? ⟨w.heap.size,1,none⟩=some (.slice ma f.methods.length mcap):=kept hb1 (by simp <;> omega) (by go_simp)
 have m0:w1.cell? ⟨w.heap.size+1,0,none⟩=some vp:=kept hb1 (by simp <;> omega) (by go_simp)
 have m1:w1.cell? ⟨w.heap.size+1,1,none⟩=some (.int .i64 m.ret.kind):=kept hb1 (by simp <;> omega) (by go_simp)
 have m2:w1.cell? ⟨w.heap.size+1,2,none⟩=some (.int .i64 m.ret.cls):=kept hb1 (by simp <;> omega) (by go_simp)
 have m3:w1.cell? ⟨w.heap.size+1,3,none⟩=some (.int .i64 m.stack):=kept hb1 (by simp <;> omega) (by go_simp)
 have m4:w1.cell? ⟨w.heap.size+1,4,none⟩=some (.int .i64 m.locals):=kept hb1 (by simp <;> omega) (by go_simp)
 have m5:w1.cell? ⟨w.heap.size+1,5,none⟩=some (.int .i64 m.regs):=kept hb1 (by simp <;> omega) (by go_simp)
 have m6:w1.cell? ⟨w.heap.size+1,6,none⟩=some (.slice da m.code.length dcap):=kept hb1 (by simp <;> omega) (by go_simp)
 have m7:w1.cell? ⟨w.heap.size+1,7,none⟩=some vh:=kept hb1 (by simp <;> omega) (by go_simp)
 have x0:w1.cell? ⟨w.heap.size+1+1,0,none⟩=some (.int .i64 op):=kept hb1 (by simp <;> omega) (by go_simp)
 have x1:w1.cell? ⟨w.heap.size+1+1,1,none⟩=some (.int .i64 a):=kept hb1 (by simp <;> omega) (by go_simp)
 have x2:w1.cell? ⟨w.heap.size+1+1,2,none⟩=some (.int .i64 b):=kept hb1 (by simp <;> omega) (by go_simp)
 have x3:w1.cell? ⟨w.heap.size+1+1,3,none⟩=some (.int .i64 c):=kept hb1 (by simp <;> omega) (by go_simp)
 have x4:w1.cell? ⟨w.heap.size+1+1,4,none⟩=some (.int .i64 n):=kept hb1 (by simp <;> omega) (by go_simp)
 have x5:w1.cell? ⟨w.heap.size+1+1,5,none⟩=some (.slice aa args.length acap):=kept hb1 (by simp <;> omega) (by go_simp)
 have hws:w.heap.size+3≤w1.heap.size:=by have:=hb1.size;simp at this;omega
 have hkl:=lt_cell e0;clear hb1
 go_wp2_with fail
 refine name_world (fun W=>Below w1.heap.size w1 W∧W.heap.size=w1.heap.size+1∧W.cell? ⟨w1.heap.size,0,none⟩=some (.int .i64 a)∧W.cell? ⟨w1.heap.size,1,none⟩=some (.int .i64 b)∧W.cell? ⟨w1.heap.size,2,none⟩=some (.int .i64 c)) ?_ ?_
 ·refine ⟨Rd.byB,?_,?_,?_,?_⟩
  all_goals go_simp
 rintro W ⟨hbW,hWs,a0,a1,a2⟩;have hWs2:=Lib.hid hWs;have hWs3:w1.heap.size < W.heap.size:=by omega
 clear hWs
 go_loopw [10] (fun i wr=>∃ j:Nat,j≤3∧i=.int .i64 j∧Below W.heap.size W wr∧Hid (∀ t,t < j→Rform.fok m.regs (pick k0 k1 k2 t) (pick a b c t)=true)) (fun i _=>3 - (intOf i).toNat)
 case atStart=>exact ⟨0,by omega,rfl,Below.refl _ _,fun t h=>absurd h (by omega)⟩
 case round =>
  obtain ⟨j,hj,rfl,hq,hall⟩:=hrel;have hqs:=hq.size;have hwr:Below w.heap.size w wr:=hw1.trans ((hbW.trans (hq.mono (by omega))).mono (by omega))
  by_cases hlt:j < 3
  ·have cK:=kept hq (by omega) (kept hbW hkl (cell_pick hlt e0 e1 e2))
   have cF:=kept hq (by omega) (cell_pick hlt a0 a1 a2)
   have hno:=Lib.hid (fun h=>hfokp.out k0 k1 k2 j hkk.out h);obtain ⟨kx,hkx⟩:∃ kx,Hid (pick k0 k1 k2 j=kx):=⟨_,rfl⟩;obtain ⟨F,hF⟩:∃ F,Hid (pick a b c j=F):=⟨_,rfl⟩
   have hyes:Hid (Rform.fok m.regs kx F=true→∀ t,t < j+1→Rform.fok m.regs (pick k0 k1 k2 t) (pick a b c t)=true):=by
    intro h t ht
    by_cases e:t=j
    ·subst e;rw [hkx.out,hF.out];exact h
    ·exact hall.out t (by omega)
   rw [hkx.out] at cK hno;rw [hF.out] at cF hno;have hOF:Ok F:=by rw [← hF.out];exact oki.out j
   have hI0:(0:Int)≤(j:Int)∧(j:Int) < 3:=⟨by omega,by omega⟩
   have hI1:(j:Int) < 3:=by omega
   have d0:=kept hq (by omega) (kept hbW (by omega) m0)
   have d1:=kept hq (by omega) (kept hbW (by omega) m1)
   have d2:=kept hq (by omega) (kept hbW (by omega) m2)
   have d3:=kept hq (by omega) (kept hbW (by omega) m3)
   have d4:=kept hq (by omega) (kept hbW (by omega) m4)
   have d5:=kept hq (by omega) (kept hbW (by omega) m5)
   have d6:=kept hq (by omega) (kept hbW (by omega) m6)
   have d7:=kept hq (by omega) (kept hbW (by omega) m7)
   clear e0 e1 e2 a0 a1 a2 f0 f1 m0 m1 m2 m3 m4 m5 m6 m7 x0 x1 x2 x3 x4 x5
   by_cases z0:kx=0
   ·subst z0
    by_cases z1:F=0
    ·subst z1;have hfk:Hid (Rform.fok m.regs 0 0=true):=by show _=_;simp [Rform.fok]
     go_wp2_with fail
     refine Drawn.hd (fun w'=>w'.cell? ⟨kn,j,none⟩=some (.int .i64 0)∧w'.cell? ⟨w1.heap.size,j,none⟩=some (.int .i64 0)) (hS:=by (try dsimp only);first | exact ⟨cK,cF⟩ | go_keep) (h:=fun hHeld=>?_)
     refine dT 0 33 ?_;refine dT 1 34 ?_;refine dT 2 35 ?_;refine dT 3 36 ?_;refine dT 4 37 ?_;refine dT 5 38 ?_;refine dT 6 39 ?_;refine dT 7 40 ?_;refine dT 8 41 ?_;refine dT 9 42 ?_;refine dT 10 43 ?_;refine dT 11 44 ?_;refine dT 12 45 ?_;refine dT 13 46 ?_;refine dT 14 47 ?_;refine dT 15 48 ?_;refine dT 16 49 ?_;refine dT 17 50 ?_;refine dT 18 51 ?_;refine dS 19 52 ?_;refine dS 20 53 ?_;refine dS 21 54 ?_;refine dS 22 55 ?_;refine dS 23 56 ?_;refine dS 24 57 ?_;refine dS 25 58 ?_;refine dS 26 59 ?_;refine dS 27 60 ?_;refine dS 28 61 ?_;refine dS 29 62 ?_;refine dT 30 63 ?_;refine dT 31 64 ?_;refine dN ?_
     go_wp2_with fail
     go_roundw
     case rel=>exact ⟨j+1,by omega,by go_num,hq.trans (Below.drew (Below.refl _ _)),hyes.out hfk.out⟩
     case measure=>simp [intOf];omega
    ·have hfk:Hid (Rform.fok m.regs 0 F=false):=by show _=_;simp [Rform.fok,z1]
     have z1':(F != 0)=true:=by simpa using z1
     clear z1
     go_wp2_with fail
     refine Drawn.hd (fun w'=>w'.cell? ⟨kn,j,none⟩=some (.int .i64 0)∧w'.cell? ⟨w1.heap.size,j,none⟩=some (.int .i64 F)) (hS:=by (try dsimp only);first | exact ⟨cK,cF⟩ | go_keep) (h:=fun hHeld=>?_)
     refine dT 0 33 ?_;refine dT 1 34 ?_;refine dT 2 35 ?_;refine dT 3 36 ?_;refine dT 4 37 ?_;refine dT 5 38 ?_;refine dT 6 39 ?_;refine dT 7 40 ?_;refine dT 8 41 ?_;refine dT 9 42 ?_;refine dT 10 43 ?_;refine dT 11 44 ?_;refine dT 12 45 ?_;refine dS 13 46 ?_;refine dS 14 47 ?_;refine dS 15 48 ?_;refine dS 16 49 ?_;refine dS 17 50 ?_;refine dS 18 51 ?_;refine dS 19 52 ?_;refine dS 20 53 ?_;refine dS 21 54 ?_;refine dS 22 55 ?_;refine dS 23 56 ?_;refine dS 24 57 ?_;refine dS 25 58 ?_;refine dS 26 59 ?_;refine dS 27 60 ?_;refine dS 28 61 ?_;refine dS 29 62 ?_;refine dS 30 63 ?_;refine dT 31 64 ?_;refine dN ?_
     go_wp2_with fail
     go_ret;exact ⟨ret_bool (hno.out hfk.out).symm,hwr.drew⟩
   ·have z0':(kx==0)=false:=by simpa using z0
    by_cases z2:0 < kx
    ·obtain ⟨p,hp⟩:∃ p,Hid (Rform.reg m.regs F kx=p):=⟨_,rfl⟩;have hfk:Hid (Rform.fok m.regs kx F=p):=by show _=_;rw [← hp.out];simp [Rform.fok,z0,z2]
     have zb:decide (0 < kx)=true:=decide_eq_true z2;clear z0
     go_wp2_with fail
     refine Drawn.hd (fun w'=>(w'.cell? ⟨kn,j,none⟩=some (.int .i64 kx)∧w'.cell? ⟨w1.heap.size,j,none⟩=some (.int .i64 F))∧w'.cell? ⟨w.heap.size+1,0,none⟩=some vp∧w'.cell? ⟨w.heap.size+1,1,none⟩=some (.int .i64 m.ret.kind)∧w'.cell? ⟨w.heap.size+1,2,none⟩=some (.int .i64 m.ret.cls)∧w'.cell? ⟨w.heap.size+1,3,none⟩=some (.int .i64 m.stack)∧w'.cell? ⟨w.heap.size+1,4,none⟩=some (.int .i64 m.locals)∧w'.cell? ⟨w.heap.size+1,5,none⟩=some (.int .i64 m.regs)∧w'.cell? ⟨w.heap.size+1,6,none⟩=some (.slice da m.code.length dcap)∧w'.cell? ⟨w.heap.size+1,7,none⟩=some vh) (hS:=by (try dsimp only);first | exact ⟨⟨cK,cF⟩,d0,d1,d2,d3,d4,d5,d6,d7⟩ | go_keep) (h:=fun hHeld=>?_)
     refine dT 0 33 ?_;refine dT 1 34 ?_;refine dT 2 35 ?_;refine dT 3 36 ?_;refine dT 4 37 ?_;refine dT 5 38 ?_;refine dS 6 39 ?_;refine dS 7 40 ?_;refine dS 8 41 ?_;refine dS 9 42 ?_;refine dS 10 43 ?_;refine dT 11 44 ?_;refine dT 12 45 ?_;refine dT 13 46 ?_;refine dT 14 47 ?_;refine dT 15 48 ?_;refine dT 16 49 ?_;refine dT 17 50 ?_;refine dT 18 51 ?_;refine dT 19 52 ?_;refine dT 20 53 ?_;refine dT 21 54 ?_;refine dT 22 55 ?_;refine dT 23 56 ?_;refine dT 24 57 ?_;refine dT 25 58 ?_;refine dT 26 59 ?_;refine dT 27 60 ?_;refine Drawn.cl 28 (fun K hK=>?_);go_simp
     go_at_call 115
     refine (regV m F kx p _ _ hp.out (hm0.out.mono hwr.drew (by simp;omega)) hr.out).mono ?_
     rintro e w6 ⟨rfl,hb6⟩;have hw6:Below wr.heap.size wr w6:=Below.trans Rd.byB (hb6.mono (by simp))
     have s1:=kept hw6 (by omega) cK
     have s2:=kept hw6 (by omega) cF
     have s3:=kept hw6 (by omega) d0
     have s4:=kept hw6 (by omega) d1
     have s5:=kept hw6 (by omega) d2
     have s6:=kept hw6 (by omega) d3
     have s7:=kept hw6 (by omega) d4
     have s8:=kept hw6 (by omega) d5
     have s9:=kept hw6 (by omega) d6
     have s10:=kept hw6 (by omega) d7
     go_wp2_with fail
     refine Drawn.bk hK (hS:=by (try dsimp only);exact ⟨⟨s1,s2⟩,s3,s4,s5,s6,s7,s8,s9,s10⟩) (h:=fun hHeld=>?_)
     clear hK K;refine dT 29 62 ?_;refine dT 30 63 ?_;refine dT 31 64 ?_;refine dN ?_;clear s1 s2 s3 s4 s5 s6 s7 s8 s9 s10
     cases p
     ·go_wp2_with fail
      go_ret;exact ⟨ret_bool (hno.out hfk.out).symm,hwr.trans (hw6.mono (by omega))⟩
     ·go_wp2_with fail
      go_roundw
      case rel=>exact ⟨j+1,by omega,by go_num,hq.trans (hw6.mono (by omega)),hyes.out hfk.out⟩
      case measure=>simp [intOf];omega
    ·have hfk:Hid (Rform.fok m.regs kx F=true):=by show _=_;simp [Rform.fok,z0,z2]
     have zb:decide (0 < kx)=false:=decide_eq_false z2;clear z0
     go_wp2_with fail
     refine Drawn.hd (fun w'=>w'.cell? ⟨kn,j,none⟩=some (.int .i64 kx)∧w'.cell? ⟨w1.heap.size,j,none⟩=some (.int .i64 F)) (hS:=by (try dsimp only);first | exact ⟨cK,cF⟩ | go_keep) (h:=fun hHeld=>?_)
     refine dT 0 33 ?_;refine dT 1 34 ?_;refine dT 2 35 ?_;refine dT 3 36 ?_;refine dT 4 37 ?_;refine dT 5 38 ?_;refine dS 6 39 ?_;refine dS 7 40 ?_;refine dS 8 41 ?_;refine dS 9 42 ?_;refine dS 10 43 ?_;refine dT 11 44 ?_;refine dT 12 45 ?_;refine dT 13 46 ?_;refine dT 14 47 ?_;refine dT 15 48 ?_;refine dT 16 49 ?_;refine dT 17 50 ?_;refine dT 18 51 ?_;refine dS 19 52 ?_;refine dS 20 53 ?_;refine dS 21 54 ?_;refine dS 22 55 ?_;refine dS 23 56 ?_;refine dS 24 57 ?_;refine dS 25 58 ?_;refine dS 26 59 ?_;refine dS 27 60 ?_;refine dS 28 61 ?_;refine dS 29 62 ?_;refine dT 30 63 ?_;refine dT 31 64 ?_;refine dN ?_
     go_wp2_with fail
     go_roundw
     case rel=>exact ⟨j+1,by omega,by go_num,hq.trans (Below.drew (Below.refl _ _)),hyes.out hfk.out⟩
     case measure=>simp [intOf];omega
  ·have hge:¬ (j:Int) < 3:=by omega
   obtain rfl:j=3:=by omega
   have d0:=kept hq (by omega) (kept hbW (by omega) m0)
   have d1:=kept hq (by omega) (kept hbW (by omega) m1)
   have d2:=kept hq (by omega) (kept hbW (by omega) m2)
   have d3:=kept hq (by omega) (kept hbW (by omega) m3)
   have d4:=kept hq (by omega) (kept hbW (by omega) m4)
   have d5:=kept hq (by omega) (kept hbW (by omega) m5)
   have d6:=kept hq (by omega) (kept hbW (by omega) m6)
   have d7:=kept hq (by omega) (kept hbW (by omega) m7)
   have c0:=kept hq (by omega) (kept hbW (by omega) f0)
   have c1:=kept hq (by omega) (kept hbW (by omega) f1)
   have y0:=kept hq (by omega) (kept hbW (by omega) x0)
   have y1:=kept hq (by omega) (kept hbW (by omega) x1)
   have y2:=kept hq (by omega) (kept hbW (by omega) x2)
   have y3:=kept hq (by omega) (kept hbW (by omega) x3)
   have y4:=kept hq (by omega) (kept hbW (by omega) x4)
   have y5:=kept hq (by omega) (kept hbW (by omega) x5)
   have hA:=Lib.hid (And.intro (hall.out 0 (by omega)) (And.intro (hall.out 1 (by omega)) (hall.out 2 (by omega))))
   clear e0 e1 e2 a0 a1 a2 f0 f1 m0 m1 m2 m3 m4 m5 m6 m7 x0 x1 x2 x3 x4 x5 hall hq hbW hw1;have hop3:op=1∨op=2∨op=3∨op=4∨op=5∨op=6∨op=7∨op=8∨op=9∨op=10∨op=11∨op=12∨op=13∨op=16∨op=17∨op=19∨op=21∨op=22∨op=23∨op=24∨op=20:=hop2.out;clear hop2
   by_cases h20:op=20
   ·subst h20;have hzz:(m.ret.kind==0)=true∨(m.ret.kind==0)=false:=by cases (m.ret.kind==0) <;> simp
    clear hop3
    rcases hzz with hzz | hzz
    all_goals as_aux_lemma =>
     go_wp2_with (first
      | (go_at_call 50;refine (wi _ _ _ _).mono ?_;rintro e w' ⟨rfl,rfl⟩)
      | (go_at_call 115;refine (reg m _ _ _ _ (hm0.out.mono hwr hwr.size) hr.out).mono ?_;rintro e w6 ⟨rfl,hb6⟩;replace hwr:=hwr.trans (hb6.mono hwr.size);replace d0:=kept hb6 (lt_cell d0) d0;replace d1:=kept hb6 (lt_cell d1) d1;replace d2:=kept hb6 (lt_cell d2) d2;replace d3:=kept hb6 (lt_cell d3) d3;replace d4:=kept hb6 (lt_cell d4) d4;replace d5:=kept hb6 (lt_cell d5) d5;replace d6:=kept hb6 (lt_cell d6) d6;replace d7:=kept hb6 (lt_cell d7) d7;replace c0:=kept hb6 (lt_cell c0) c0;replace c1:=kept hb6 (lt_cell c1) c1;replace y0:=kept hb6 (lt_cell y0) y0;replace y1:=kept hb6 (lt_cell y1) y1;replace y2:=kept hb6 (lt_cell y2) y2;replace y3:=kept hb6 (lt_cell y3) y3;replace y4:=kept hb6 (lt_cell y4) y4;replace y5:=kept hb6 (lt_cell y5) y5;clear hb6))
     all_goals
      go_ret;refine ⟨ret_bool ?_,hwr⟩;go_tidy;have hk2:=hkk.out;simp [Rform.kinds] at hk2;obtain ⟨rfl,rfl,rfl⟩:=hk2;have hA2:=hA.out;simp [pick,Rform.fok] at hA2;have hm3:=Lib.hid hm0;clear d0 d1 d2 d3 d4 d5 d6 d7 c0 c1 y0 y1 y2 y3 y4 y5 hwr hm3 hm0 hf0 hi0 hkk hA;simp_all [Rform.ins,Rform.body,Rform.num,Form.rng,within,sn1,Rform.reg_13]
      first | done | rfl | (intros;omega) | grind
   replace hop3:op=1∨op=2∨op=3∨op=4∨op=5∨op=6∨op=7∨op=8∨op=9∨op=10∨op=11∨op=12∨op=13∨op=16∨op=17∨op=19∨op=21∨op=22∨op=23∨op=24:=by omega
   clear h20
   rcases hop3 with rfl | rfl | rfl | rfl | rfl | rfl | rfl | rfl | rfl | rfl | rfl | rfl | rfl | rfl | rfl | rfl | rfl | rfl | rfl | rfl
   all_goals as_aux_lemma =>
    go_wp2_with (first
     | (go_at_call 50;refine (wi _ _ _ _).mono ?_;rintro e w' ⟨rfl,rfl⟩)
     | (go_at_call 115;refine (reg m _ _ _ _ (hm0.out.mono hwr hwr.size) hr.out).mono ?_;rintro e w6 ⟨rfl,hb6⟩;replace hwr:=hwr.trans (hb6.mono hwr.size);replace d0:=kept hb6 (lt_cell d0) d0;replace d1:=kept hb6 (lt_cell d1) d1;replace d2:=kept hb6 (lt_cell d2) d2;replace d3:=kept hb6 (lt_cell d3) d3;replace d4:=kept hb6 (lt_cell d4) d4;replace d5:=kept hb6 (lt_cell d5) d5;replace d6:=kept hb6 (lt_cell d6) d6;replace d7:=kept hb6 (lt_cell d7) d7;replace c0:=kept hb6 (lt_cell c0) c0;replace c1:=kept hb6 (lt_cell c1) c1;replace y0:=kept hb6 (lt_cell y0) y0;replace y1:=kept hb6 (lt_cell y1) y1;replace y2:=kept hb6 (lt_cell y2) y2;replace y3:=kept hb6 (lt_cell y3) y3;replace y4:=kept hb6 (lt_cell y4) y4;replace y5:=kept hb6 (lt_cell y5) y5;clear hb6))
    all_goals
     go_ret;refine ⟨ret_bool ?_,hwr⟩;go_tidy;have hk2:=hkk.out;simp [Rform.kinds] at hk2;obtain ⟨rfl,rfl,rfl⟩:=hk2;have hA2:=hA.out;simp [pick,Rform.fok] at hA2;have hm3:=Lib.hid hm0;clear d0 d1 d2 d3 d4 d5 d6 d7 c0 c1 y0 y1 y2 y3 y4 y5 hwr hm3 hm0 hf0 hi0 hkk hA;simp_all [Rform.ins,Rform.body,Rform.num,Form.rng,within,sn1,Rform.reg_13]
     first | done | rfl | (intros;omega) | grind
end RefG
end Go.Proofs.Ytncmhenfgbcihab
