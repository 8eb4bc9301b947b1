/- Parts of the proof: RefID. -/
import Derived.Test.YtncmhenfgbcihabG02
set_option linter.unusedSimpArgs false
set_option linter.unusedVariables false
set_option maxHeartbeats 8000000
namespace Go.Proofs.Ytncmhenfgbcihab
open Go.RowKit
namespace RefG
open Num Rd D HierW FormW FormR
set_option maxRecDepth 100000 in
theorem insD (f:Fi) (m:Me) (i:Ins) (vf vm vi:Value) (w:World) (hf:VFi w w.heap.size vf f) (hm:VMe w w.heap.size vm m) (hi:VIns w w.heap.size vi i) (hr:0≤m.regs∧m.regs≤90) (hop:i.op=14∨i.op=15∨i.op=18) :
  Calls Try.prog 59 #[vf,vm,vi] w fun e w'=>e=.returned (.bool (Rform.ins f m i))∧Below w.heap.size w w':=by
 have hf0:=Lib.hid hf;have hm0:=Lib.hid hm;have hi0:=Lib.hid hi;obtain ⟨vc,vme,rfl,⟨ca,ccap,rfl,clc,ccc,cel⟩,⟨ma,mcap,rfl,mlc,mcc,mel⟩⟩:=hf;obtain ⟨vp,vcd,vh,rfl,⟨okr,_,_,_,_⟩,_,⟨da,dcap,rfl,dlc,dcc,_⟩,_⟩:=hm;obtain ⟨va,rfl,⟨oop,oa,ob,oc,on⟩,⟨aa,acap,rfl,alc,acc,ael⟩⟩:=hi;have oki:=Lib.hid (show ∀ j,Ok (pick i.a i.b i.c j) from fun j=>pick_ok j oa ob oc);have hnone:=Lib.hid (Rform.ins_none (f:=f) (m:=m) (i:=i));have hfokp:=Lib.hid (fun k0 k1 k2 j h1 h2=>fok_pick (f:=f) (m:=m) (i:=i) (k0:=k0) (k1:=k1) (k2:=k2) (j:=j) h1 h2);have hop2:=Lib.hid hop;clear hop;obtain ⟨op,a,b,c,n,args⟩:=i;simp only at *
 unfold Ok at oop oa ob oc on;obtain ⟨hr1,hr2⟩:=hr;have hr:=Lib.hid (And.intro hr1 hr2);have cel2:=Lib.hid cel;have mel2:=Lib.hid mel;have ael2:=Lib.hid ael;clear cel mel ael
 go_enter Try.func59,Try.ntmps59
 go_wp2_with fail
 refine (namedB w _ op ?_).mono ?_
 ·exact Rd.byB
 rintro e w1 ⟨hw1,hb1,⟨hk,rfl⟩ | ⟨k0,k1,k2,kn,hk,rfl,hkn,e0,e1,e2⟩⟩
 ·have hX:=Lib.hid (hnone.out hk);clear hop2;clear hk
  go_wp2_with fail
  go_ret;exact ⟨ret_bool hX.out.symm,hw1⟩
 have hkk:=Lib.hid hk;clear hk;simp at hkn;have f0:w1.cell? ⟨w.heap.size,0,none⟩=some (.slice ca f.classes.length ccap):=kept hb1 (by simp <;> omega) (by go_simp)
 have f1:w1.cell? ⟨w.heap.size,1,none⟩=some (.slice ma f.methods.length mcap):=kept hb1 (by simp <;> omega) (by go_simp)
 have m0:w1.cell? ⟨w.heap.size+1,0,none⟩=some vp:=kept hb1 (by simp <;> omega) (by go_simp)
 have m1:w1.cell? ⟨w.heap.size+1,1,none⟩=some (.int .i64 m.ret.kind):=kept hb1 (by simp <;> omega) (by go_simp)
 have m2:w1.cell? ⟨w.heap.size+1,2,none⟩=some (.int .i64 m.ret.cls):=kept hb1 (by simp <;> omega) (by go_simp)
 have m3:w1.cell? ⟨w.heap.size+1,3,none⟩=some (.int .i64 m.stack):=kept hb1 (by simp <;> omega) (by go_simp)
 have m4:w1.cell? ⟨w.heap.size+1,4,none⟩=some (.int .i64 m.locals):=kept hb1 (by simp <;> omega) (by go_simp)
 have m5:w1.cell? ⟨w.heap.size+1,5,none⟩=some (.int .i64 m.regs):=kept hb1 (by simp <;> omega) (by go_simp)
 have m6:w1.cell? ⟨w.heap.size+1,6,none⟩=some (.slice da m.code.length dcap):=kept hb1 (by simp <;> omega) (by go_simp)
 have m7:w1.cell? ⟨w.heap.size+1,7,none⟩=some vh:=kept hb1 (by simp <;> omega) (by go_simp)
 have x0:w1.cell? ⟨w.heap.size+1+1,0,none⟩=some (.int .i64 op):=kept hb1 (by simp <;> omega) (by go_simp)
 have x1:w1.cell? ⟨w.heap.size+1+1,1,none⟩=some (.int .i64 a):=kept hb1 (by simp <;> omega) (by go_simp)
 have x2:w1.cell? ⟨w.heap.size+1+1,2,none⟩=some (.int .i64 b):=kept hb1 (by simp <;> omega) (by go_simp)
 have x3:w1.cell? ⟨w.heap.size+1+1,3,none⟩=some (.int .i64 c):=kept hb1 (by simp <;> omega) (by go_simp)
 have x4:w1.cell? ⟨w.heap.size+1+1,4,none⟩=some (.int .i64 n):=kept hb1 (by simp <;> omega) (by go_simp)
 have x5:w1.cell? ⟨w.heap.size+1+1,5,none⟩=some (.slice aa args.length acap):=kept hb1 (by simp <;> omega) (by go_simp)
 have hws:w.heap.size+3≤w1.heap.size:=by have:=hb1.size;simp at this;omega
 have hkl:=lt_cell e0;clear hb1
 go_wp2_with fail
 refine name_world (fun W=>Below w1.heap.size w1 W∧W.heap.size=w1.heap.size+1∧W.cell? ⟨w1.heap.size,0,none⟩=some (.int .i64 a)∧W.cell? ⟨w1.heap.size,1,none⟩=some (.int .i64 b)∧W.cell? ⟨w1.heap.size,2,none⟩=some (.int .i64 c)) ?_ ?_
 ·refine ⟨Rd.byB,?_,?_,?_,?_⟩
  all_goals go_simp
 rintro W ⟨hbW,hWs,a0,a1,a2⟩;have hWs2:=Lib.hid hWs;have hWs3:w1.heap.size < W.heap.size:=by omega
 clear hWs
 go_loopw [10] (fun i wr=>∃ j:Nat,j≤3∧i=.int .i64 j∧Below W.heap.size W wr∧Hid (∀ t,t < j→Rform.fok m.regs (pick k0 k1 k2 t) (pick a b c t)=true)) (fun i _=>3 - (intOf i).toNat)
 case atStart=>exact ⟨0,by omega,rfl,Below.refl _ _,fun t h=>absurd h (by omega)⟩
 case round =>
  obtain ⟨j,hj,rfl,hq,hall⟩:=hrel;have hqs:=hq.size;have hwr:Below w.heap.size w wr:=hw1.trans ((hbW.trans (hq.mono (by omega))).mono (by omega))
  by_cases hlt:j < 3
  ·have cK:=kept hq (by omega) (kept hbW hkl (cell_pick hlt e0 e1 e2))
   have cF:=kept hq (by omega) (cell_pick hlt a0 a1 a2)
   have hno:=Lib.hid (fun h=>hfokp.out k0 k1 k2 j hkk.out h);obtain ⟨kx,hkx⟩:∃ kx,Hid (pick k0 k1 k2 j=kx):=⟨_,rfl⟩;obtain ⟨F,hF⟩:∃ F,Hid (pick a b c j=F):=⟨_,rfl⟩
   have hyes:Hid (Rform.fok m.regs kx F=true→∀ t,t < j+1→Rform.fok m.regs (pick k0 k1 k2 t) (pick a b c t)=true):=by
    intro h t ht
    by_cases e:t=j
    ·subst e;rw [hkx.out,hF.out];exact h
    ·exact hall.out t (by omega)
   rw [hkx.out] at cK hno;rw [hF.out] at cF hno;have hOF:Ok F:=by rw [← hF.out];exact oki.out j
   have hI0:(0:Int)≤(j:Int)∧(j:Int) < 3:=⟨by omega,by omega⟩
   have hI1:(j:Int) < 3:=by omega
   have d0:=kept hq (by omega) (kept hbW (by omega) m0)
   have d1:=kept hq (by omega) (kept hbW (by omega) m1)
   have d2:=kept hq (by omega) (kept hbW (by omega) m2)
   have d3:=kept hq (by omega) (kept hbW (by omega) m3)
   have d4:=kept hq (by omega) (kept hbW (by omega) m4)
   have d5:=kept hq (by omega) (kept hbW (by omega) m5)
   have d6:=kept hq (by omega) (kept hbW (by omega) m6)
   have d7:=kept hq (by omega) (kept hbW (by omega) m7)
   clear e0 e1 e2 a0 a1 a2 f0 f1 m0 m1 m2 m3 m4 m5 m6 m7 x0 x1 x2 x3 x4 x5
   by_cases z0:kx=0
   ·subst z0
    by_cases z1:F=0
    ·subst z1;have hfk:Hid (Rform.fok m.regs 0 0=true):=by show _=_;simp [Rform.fok]
     go_wp2_with fail
     refine Drawn.hd (fun w'=>w'.cell? ⟨kn,j,none⟩=some (.int .i64 0)∧w'.cell? ⟨w1.heap.size,j,none⟩=some (.int .i64 0)) (hS:=by (try dsimp only);first | exact ⟨cK,cF⟩ | go_keep) (h:=fun hHeld=>?_)
     refine dT 0 33 ?_;refine dT 1 34 ?_;refine dT 2 35 ?_;refine dT 3 36 ?_;refine dT 4 37 ?_;refine dT 5 38 ?_;refine dT 6 39 ?_;refine dT 7 40 ?_;refine dT 8 41 ?_;refine dT 9 42 ?_;refine dT 10 43 ?_;refine dT 11 44 ?_;refine dT 12 45 ?_;refine dT 13 46 ?_;refine dT 14 47 ?_;refine dT 15 48 ?_;refine dT 16 49 ?_;refine dT 17 50 ?_;refine dT 18 51 ?_;refine dS 19 52 ?_;refine dS 20 53 ?_;refine dS 21 54 ?_;refine dS 22 55 ?_;refine dS 23 56 ?_;refine dS 24 57 ?_;refine dS 25 58 ?_;refine dS 26 59 ?_;refine dS 27 60 ?_;refine dS 28 61 ?_;refine dS 29 62 ?_;refine dT 30 63 ?_;refine dT 31 64 ?_;refine dN ?_
     go_wp2_with fail
     go_roundw
     case rel=>exact ⟨j+1,by omega,by go_num,hq.trans (Below.drew (Below.refl _ _)),hyes.out hfk.out⟩
     case measure=>simp [intOf];omega
    ·have hfk:Hid (Rform.fok m.regs 0 F=false):=by show _=_;simp [Rform.fok,z1]
     have z1':(F != 0)=true:=by simpa using z1
     clear z1
     go_wp2_with fail
     refine Drawn.hd (fun w'=>w'.cell? ⟨kn,j,none⟩=some (.int .i64 0)∧w'.cell? ⟨w1.heap.size,j,none⟩=some (.int .i64 F)) (hS:=by (try dsimp only);first | exact ⟨cK,cF⟩ | go_keep) (h:=fun hHeld=>?_)
     refine dT 0 33 ?_;refine dT 1 34 ?_;refine dT 2 35 ?_;refine dT 3 36 ?_;refine dT 4 37 ?_;refine dT 5 38 ?_;refine dT 6 39 ?_;refine dT 7 40 ?_;refine dT 8 41 ?_;refine dT 9 42 ?_;refine dT 10 43 ?_;refine dT 11 44 ?_;refine dT 12 45 ?_;refine dS 13 46 ?_;refine dS 14 47 ?_;refine dS 15 48 ?_;refine dS 16 49 ?_;refine dS 17 50 ?_;refine dS 18 51 ?_;refine dS 19 52 ?_;refine dS 20 53 ?_;refine dS 21 54 ?_;refine dS 22 55 ?_;refine dS 23 56 ?_;refine dS 24 57 ?_;refine dS 25 58 ?_;refine dS 26 59 ?_;refine dS 27 60 ?_;refine dS 28 61 ?_;refine dS 29 62 ?_;refine dS 30 63 ?_;refine dT 31 64 ?_;refine dN ?_
     go_wp2_with fail
     go_ret;exact ⟨ret_bool (hno.out hfk.out).symm,hwr.drew⟩
   ·have z0':(kx==0)=false:=by simpa using z0
    by_cases z2:0 < kx
    ·obtain ⟨p,hp⟩:∃ p,Hid (Rform.reg m.regs F kx=p):=⟨_,rfl⟩;have hfk:Hid (Rform.fok m.regs kx F=p):=by show _=_;rw [← hp.out];simp [Rform.fok,z0,z2]
     have zb:decide (0 < kx)=true:=decide_eq_true z2;clear z0
     go_wp2_with fail
     refine Drawn.hd (fun w'=>(w'.cell? ⟨kn,j,none⟩=some (.int .i64 kx)∧w'.cell? ⟨w1.heap.size,j,none⟩=some (.int .i64 F))∧w'.cell? ⟨w.heap.size+1,0,none⟩=some vp∧w'.cell? ⟨w.heap.size+1,1,none⟩=some (.int .i64 m.ret.kind)∧w'.cell? ⟨w.heap.size+1,2,none⟩=some (.int .i64 m.ret.cls)∧w'.cell? ⟨w.heap.size+1,3,none⟩=some (.int .i64 m.stack)∧w'.cell? ⟨w.heap.size+1,4,none⟩=some (.int .i64 m.locals)∧w'.cell? ⟨w.heap.size+1,5,none⟩=some (.int .i64 m.regs)∧w'.cell? ⟨w.heap.size+1,6,none⟩=some (.slice da m.code.length dcap)∧w'.cell? ⟨w.heap.size+1,7,none⟩=some vh) (hS:=by (try dsimp only);first | exact ⟨⟨cK,cF⟩,d0,d1,d2,d3,d4,d5,d6,d7⟩ | go_keep) (h:=fun hHeld=>?_)
     refine dT 0 33 ?_;refine dT 1 34 ?_;refine dT 2 35 ?_;refine dT 3 36 ?_;refine dT 4 37 ?_;refine dT 5 38 ?_;refine dS 6 39 ?_;refine dS 7 40 ?_;refine dS 8 41 ?_;refine dS 9 42 ?_;refine dS 10 43 ?_;refine dT 11 44 ?_;refine dT 12 45 ?_;refine dT 13 46 ?_;refine dT 14 47 ?_;refine dT 15 48 ?_;refine dT 16 49 ?_;refine dT 17 50 ?_;refine dT 18 51 ?_;refine dT 19 52 ?_;refine dT 20 53 ?_;refine dT 21 54 ?_;refine dT 22 55 ?_;refine dT 23 56 ?_;refine dT 24 57 ?_;refine dT 25 58 ?_;refine dT 26 59 ?_;refine dT 27 60 ?_;refine Drawn.cl 28 (fun K hK=>?_);go_simp
     go_at_call 115
     refine (regV m F kx p _ _ hp.out (hm0.out.mono hwr.drew (by simp;omega)) hr.out).mono ?_
     rintro e w6 ⟨rfl,hb6⟩;have hw6:Below wr.heap.size wr w6:=Below.trans Rd.byB (hb6.mono (by simp))
     have s1:=kept hw6 (by omega) cK
     have s2:=kept hw6 (by omega) cF
     have s3:=kept hw6 (by omega) d0
     have s4:=kept hw6 (by omega) d1
     have s5:=kept hw6 (by omega) d2
     have s6:=kept hw6 (by omega) d3
     have s7:=kept hw6 (by omega) d4
     have s8:=kept hw6 (by omega) d5
     have s9:=kept hw6 (by omega) d6
     have s10:=kept hw6 (by omega) d7
     go_wp2_with fail
     refine Drawn.bk hK (hS:=by (try dsimp only);exact ⟨⟨s1,s2⟩,s3,s4,s5,s6,s7,s8,s9,s10⟩) (h:=fun hHeld=>?_)
     clear hK K;refine dT 29 62 ?_;refine dT 30 63 ?_;refine dT 31 64 ?_;refine dN ?_;clear s1 s2 s3 s4 s5 s6 s7 s8 s9 s10
     cases p
     ·go_wp2_with fail
      go_ret;exact ⟨ret_bool (hno.out hfk.out).symm,hwr.trans (hw6.mono (by omega))⟩
     ·go_wp2_with fail
      go_roundw
      case rel=>exact ⟨j+1,by omega,by go_num,hq.trans (hw6.mono (by omega)),hyes.out hfk.out⟩
      case measure=>simp [intOf];omega
    ·have hfk:Hid (Rform.fok m.regs kx F=true):=by show _=_;simp [Rform.fok,z0,z2]
     have zb:decide (0 < kx)=false:=decide_eq_false z2;clear z0
     go_wp2_with fail
     refine Drawn.hd (fun w'=>w'.cell? ⟨kn,j,none⟩=some (.int .i64 kx)∧w'.cell? ⟨w1.heap.size,j,none⟩=some (.int .i64 F)) (hS:=by (try dsimp only);first | exact ⟨cK,cF⟩ | go_keep) (h:=fun hHeld=>?_)
     refine dT 0 33 ?_;refine dT 1 34 ?_;refine dT 2 35 ?_;refine dT 3 36 ?_;refine dT 4 37 ?_;refine dT 5 38 ?_;refine dS 6 39 ?_;refine dS 7 40 ?_;refine dS 8 41 ?_;refine dS 9 42 ?_;refine dS 10 43 ?_;refine dT 11 44 ?_;refine dT 12 45 ?_;refine dT 13 46 ?_;refine dT 14 47 ?_;refine dT 15 48 ?_;refine dT 16 49 ?_;refine dT 17 50 ?_;refine dT 18 51 ?_;refine dS 19 52 ?_;refine dS 20 53 ?_;refine dS 21 54 ?_;refine dS 22 55 ?_;refine dS 23 56 ?_;refine dS 24 57 ?_;refine dS 25 58 ?_;refine dS 26 59 ?_;refine dS 27 60 ?_;refine dS 28 61 ?_;refine dS 29 62 ?_;refine dT 30 63 ?_;refine dT 31 64 ?_;refine dN ?_
     go_wp2_with fail
     go_roundw
     case rel=>exact ⟨j+1,by omega,by go_num,hq.trans (Below.drew (Below.refl _ _)),hyes.out hfk.out⟩
     case measure=>simp [intOf];omega
  ·have hge:¬ (j:Int) < 3:=by omega
   obtain rfl:j=3:=by omega
   have d0:=kept hq (by omega) (kept hbW (by omega) m0)
   have d1:=kept hq (by omega) (kept hbW (by omega) m1)
   have d2:=kept hq (by omega) (kept hbW (by omega) m2)
   have d3:=kept hq (by omega) (kept hbW (by omega) m3)
   have d4:=kept hq (by omega) (kept hbW (by omega) m4)
   have d5:=kept hq (by omega) (kept hbW (by omega) m5)
   have d6:=kept hq (by omega) (kept hbW (by omega) m6)
   have d7:=kept hq (by omega) (kept hbW (by omega) m7)
   have c0:=kept hq (by omega) (kept hbW (by omega) f0)
   have c1:=kept hq (by omega) (kept hbW (by omega) f1)
   have y0:=kept hq (by omega) (kept hbW (by omega) x0)
   have y1:=kept hq (by omega) (kept hbW (by omega) x1)
   have y2:=kept hq (by omega) (kept hbW (by omega) x2)
   have y3:=kept hq (by omega) (kept hbW (by omega) x3)
   have y4:=kept hq (by omega) (kept hbW (by omega) x4)
   have y5:=kept hq (by omega) (kept hbW (by omega) x5)
   have hA:=Lib.hid (And.intro (hall.out 0 (by omega)) (And.intro (hall.out 1 (by omega)) (hall.out 2 (by omega))))
   clear e0 e1 e2 a0 a1 a2 f0 f1 m0 m1 m2 m3 m4 m5 m6 m7 x0 x1 x2 x3 x4 x5 hall hq hbW hw1
   by_cases h18:op=18
   ·subst h18;clear hop2
    as_aux_lemma =>
     have hsub:IntKind.i64.wrap ((f.methods.length:Int) - 1)=(f.methods.length:Int) - 1:=by rw [Num.wrap_i64,wrap64_id ⟨by omega,by omega⟩]
     have hBC:Hid (b=0∧c=0):=by
      show _∧_
      have hk2:=hkk.out;simp [Rform.kinds] at hk2;obtain ⟨rfl,rfl,rfl⟩:=hk2;have hA2:=hA.out
      simpa [pick,Rform.fok] using hA2
     by_cases hn:n=0
     case neg =>
      have hX:Hid (Rform.ins f m ⟨18,a,b,c,n,args⟩=false):=by show _=_;simp [Rform.ins,Rform.num,hn]
      have hn':(n != 0)=true:=by simpa using hn
      go_wp2_with fail
      go_ret;exact ⟨ret_bool hX.out.symm,hwr⟩
     have hn':(n != 0)=false:=by simpa using hn
     have hn0:=Lib.hid hn;clear hn
     have hXX:Hid (Rform.ins f m ⟨18,a,b,c,n,args⟩=(Form.rng a 0 f.methods.length && decide (args.length=(Rform.mAt f.methods a).length) && Rform.regsOk m.regs (Rform.mAt f.methods a) args)):=by
      show _=_
      simp [Rform.ins,Rform.body,Rform.num,hn0.out,hBC.out.1,hBC.out.2]
     obtain ⟨p,hp⟩:∃ p,Hid (within a 0 ((f.methods.length:Int) - 1)=p):=⟨_,rfl⟩;have hpr:Hid (Form.rng a 0 f.methods.length=p):=by show _=_;rw [← hp.out,within_rng,Int.sub_add_cancel]
     have hpf:=hp.out
     cases p
     ·
      have hX:Hid (Rform.ins f m ⟨18,a,b,c,n,args⟩=false):=by show _=_;rw [hXX.out,hpr.out];rfl
      go_wp2_with fail
      refine Drawn.hd (fun w'=>w'.cell? ⟨w.heap.size+1+1,1,none⟩=some (.int .i64 a)∧w'.cell? ⟨w.heap.size,1,none⟩=some (.slice ma f.methods.length mcap)) (hS:=by (try dsimp only);first | exact ⟨y1,c1⟩ | go_keep) (h:=fun hHeld=>?_)
      refine dT 0 305 ?_;refine dT 1 306 ?_;refine dT 2 307 ?_;refine dT 3 308 ?_;refine dT 4 309 ?_;refine dT 5 310 ?_;refine Drawn.cl 6 (fun K hK=>?_);go_simp
      go_at_call 50
      refine (wi _ _ _ _).mono ?_;rintro e w2 ⟨rfl,rfl⟩;rw [hpf]
      go_wp2_with fail
      refine Drawn.bk hK (hS:=by (try dsimp only);exact ⟨y1,c1⟩) (h:=fun hHeld=>?_)
      clear hK K;refine dT 7 312 ?_;refine dT 8 313 ?_;refine dS 9 314 ?_;refine dS 10 315 ?_;refine dS 11 316 ?_;refine dS 12 317 ?_;refine dS 13 318 ?_;refine dS 14 319 ?_;refine dS 15 320 ?_;refine dS 16 321 ?_;refine dS 17 322 ?_;refine dS 18 323 ?_;refine dS 19 324 ?_;refine dS 20 325 ?_;refine dT 21 326 ?_;refine dN ?_
      go_wp2_with fail
      go_ret;exact ⟨ret_bool hX.out.symm,hwr.drew⟩
     ·
      have hr2:0≤a∧a < f.methods.length:=by simpa [Form.rng] using hpr.out
      obtain ⟨k,rfl⟩:=Int.eq_ofNat_of_zero_le hr2.1;have hk:k < f.methods.length:=by omega
      obtain ⟨b0,o0,rfl,hb0,he⟩:=mel2.out k hk
      have hmp:Hid (Rform.mAt f.methods (k:Int)=(f.methods[k]).params):=by
       show _=_
       simp [Rform.mAt,hk]
      obtain ⟨x,hx⟩:=at_of hk;rw [hx.out] at he hmp;obtain ⟨vp',_,_,g3,_,_,_,_,_,_,_,_,hps,_,_⟩:=he;obtain ⟨pa,pcap,rfl,plc,pcc,pel⟩:=hps;have g4:=kept hwr hb0 g3;have pel2:=Lib.hid pel;have hk0:(0:Int)≤(k:Int)∧(k:Int) < f.methods.length:=⟨by omega,by omega⟩
      clear pel g3 hr2
      by_cases hl:args.length=x.params.length
      case neg =>
       have hX:Hid (Rform.ins f m ⟨18,(k:Int),b,c,n,args⟩=false):=by show _=_;rw [hXX.out,hmp.out,decide_eq_false hl];simp
       have hl':((args.length:Int) != (x.params.length:Int))=true:=by simp;omega
       clear hl
       go_wp2_with fail
       refine Drawn.hd (fun w'=>w'.cell? ⟨w.heap.size+1+1,1,none⟩=some (.int .i64 (k:Int))∧w'.cell? ⟨w.heap.size,1,none⟩=some (.slice (some ⟨b0,o0,none⟩) f.methods.length mcap)∧w'.cell? ⟨w.heap.size+1+1,5,none⟩=some (.slice aa args.length acap)∧w'.cell? ⟨b0,o0+k*8,none⟩=some (.slice pa x.params.length pcap)) (hS:=by (try dsimp only);first | exact ⟨y1,c1,y5,g4⟩ | go_keep) (h:=fun hHeld=>?_)
       refine dT 0 305 ?_;refine dT 1 306 ?_;refine dT 2 307 ?_;refine dT 3 308 ?_;refine dT 4 309 ?_;refine dT 5 310 ?_;refine Drawn.cl 6 (fun K hK=>?_);go_simp
       go_at_call 50
       refine (wi _ _ _ _).mono ?_;rintro e w2 ⟨rfl,rfl⟩;rw [hpf]
       go_wp2_with fail
       refine Drawn.bk hK (hS:=by (try dsimp only);exact ⟨y1,c1,y5,g4⟩) (h:=fun hHeld=>?_)
       clear hK K;refine dT 7 312 ?_;refine dT 8 313 ?_;refine dT 9 314 ?_;refine dT 10 315 ?_;refine dT 11 316 ?_;refine dT 12 317 ?_;refine dT 13 318 ?_;refine dT 14 319 ?_;refine dT 15 320 ?_;refine dT 16 321 ?_;refine dT 17 322 ?_;refine dT 18 323 ?_;refine dT 19 324 ?_;refine dT 20 325 ?_;refine dT 21 326 ?_;refine dN ?_
       go_wp2_with fail
       go_ret;exact ⟨ret_bool hX.out.symm,hwr.drew⟩
      have hl':((args.length:Int) != (x.params.length:Int))=false:=by simp;omega
      have HL:=Lib.hid hl;clear hl
      have hX:Hid (Rform.ins f m ⟨18,(k:Int),b,c,n,args⟩=Rform.regsOk m.regs x.params args):=by
       show _=_
       rw [hXX.out,hmp.out,hpr.out,decide_eq_true HL.out];simp
      go_wp2_with fail
      refine Drawn.hd (fun w'=>w'.cell? ⟨w.heap.size+1+1,1,none⟩=some (.int .i64 (k:Int))∧w'.cell? ⟨w.heap.size,1,none⟩=some (.slice (some ⟨b0,o0,none⟩) f.methods.length mcap)∧w'.cell? ⟨w.heap.size+1+1,5,none⟩=some (.slice aa args.length acap)∧w'.cell? ⟨b0,o0+k*8,none⟩=some (.slice pa x.params.length pcap)) (hS:=by (try dsimp only);first | exact ⟨y1,c1,y5,g4⟩ | go_keep) (h:=fun hHeld=>?_)
      refine dT 0 305 ?_;refine dT 1 306 ?_;refine dT 2 307 ?_;refine dT 3 308 ?_;refine dT 4 309 ?_;refine dT 5 310 ?_;refine Drawn.cl 6 (fun K hK=>?_);go_simp
      go_at_call 50
      refine (wi _ _ _ _).mono ?_;rintro e w2 ⟨rfl,rfl⟩;rw [hpf]
      go_wp2_with fail
      refine Drawn.bk hK (hS:=by (try dsimp only);exact ⟨y1,c1,y5,g4⟩) (h:=fun hHeld=>?_)
      clear hK K;refine dT 7 312 ?_;refine dT 8 313 ?_;refine dT 9 314 ?_;refine dT 10 315 ?_;refine dT 11 316 ?_;refine dT 12 317 ?_;refine dT 13 318 ?_;refine dT 14 319 ?_;refine dT 15 320 ?_;refine dT 16 321 ?_;refine dT 17 322 ?_;refine dT 18 323 ?_;refine dT 19 324 ?_;refine dT 20 325 ?_;refine dT 21 326 ?_;refine dN ?_;clear hpf hsub hl';obtain ⟨wo,rfl⟩:∃ wo:World,wo=wr:=⟨_,rfl⟩
      go_wp2_with fail
      go_loopw [13] (fun i wr=>∃ j:Nat,j≤args.length∧i=.int .i64 j∧Below wo.heap.size wo wr∧Hid (∀ t,t < j→Rform.reg m.regs (args.getD t 0) (x.params.getD t ⟨0,0⟩).kind=true)) (fun i _=>args.length - (intOf i).toNat)
      case atStart=>exact ⟨0,by omega,rfl,(Below.refl _ _).drew,fun t h=>absurd h (by omega)⟩
      case round =>
       obtain ⟨j,hj,rfl,hq,hall⟩:=hrel;have hqs:=hq.size;have hww:Below w.heap.size w wr:=hwr.trans (hq.mono hwr.size);have q0:=kept hq (lt_cell d0) d0;have q1:=kept hq (lt_cell d1) d1;have q2:=kept hq (lt_cell d2) d2;have q3:=kept hq (lt_cell d3) d3;have q4:=kept hq (lt_cell d4) d4;have q5:=kept hq (lt_cell d5) d5;have q6:=kept hq (lt_cell d6) d6;have q7:=kept hq (lt_cell d7) d7;have r1:=kept hq (lt_cell y1) y1;have r5:=kept hq (lt_cell y5) y5;have s1:=kept hq (lt_cell c1) c1;have s4:=kept hq (lt_cell g4) g4;clear d0 d1 d2 d3 d4 d5 d6 d7 y0 y1 y2 y3 y4 y5 c0 c1 g4
       by_cases hlt2:j < args.length
       ·have hjp:j < x.params.length:=by have:=HL.out;omega
        obtain ⟨ab,ao,rfl,hab,hae⟩:=ael2.out j hlt2;obtain ⟨fb,fo,rfl,hfb,hfe⟩:=pel2.out j hjp;have hga:Hid (args.getD j 0=args[j]):=by show _=_;simp [hlt2]
        have hgp:Hid (x.params.getD j ⟨0,0⟩=x.params[j]):=by show _=_;simp [hjp]
        obtain ⟨y,hy⟩:=at_of hlt2;obtain ⟨t,ht⟩:=at_of hjp;rw [hy.out] at hae hga;rw [ht.out] at hfe hgp;have u1:=kept hww hab hae.1;rw [Nat.mul_one] at u1;have u2:=kept hww hfb hfe.1;obtain ⟨p2,hp2⟩:∃ p,Hid (Rform.reg m.regs y t.kind=p):=⟨_,rfl⟩
        have hyes:Hid (p2=true→∀ u,u < j+1→Rform.reg m.regs (args.getD u 0) (x.params.getD u ⟨0,0⟩).kind=true):=by
         intro h u hu
         by_cases e:u=j
         ·subst e;rw [hga.out,hgp.out,hp2.out];exact h
         ·exact hall.out u (by omega)
        have hno:Hid (p2=false→Rform.regsOk m.regs x.params args=false):=by
         intro h
         unfold Rform.regsOk;rw [List.all_eq_false];exact ⟨j,by simpa using hjp,by rw [hga.out,hgp.out,hp2.out,h];simp⟩
        have hI1:(0:Int)≤(j:Int)∧(j:Int) < args.length:=⟨by omega,by omega⟩
        have hI2:(j:Int) < args.length:=by omega
        have hI3:(j:Int) < x.params.length:=by omega
        clear hae hfe
        go_wp2_with fail
        refine Drawn.hd (fun w'=>(w'.cell? ⟨w.heap.size+1+1,1,none⟩=some (.int .i64 (k:Int))∧w'.cell? ⟨w.heap.size+1+1,5,none⟩=some (.slice (some ⟨ab,ao,none⟩) args.length acap)∧w'.cell? ⟨w.heap.size,1,none⟩=some (.slice (some ⟨b0,o0,none⟩) f.methods.length mcap)∧w'.cell? ⟨b0,o0+k*8,none⟩=some (.slice (some ⟨fb,fo,none⟩) x.params.length pcap)∧w'.cell? ⟨ab,ao+j,none⟩=some (.int .i64 y)∧w'.cell? ⟨fb,fo+j*2,none⟩=some (.int .i64 t.kind))∧w'.cell? ⟨w.heap.size+1,0,none⟩=some vp∧w'.cell? ⟨w.heap.size+1,1,none⟩=some (.int .i64 m.ret.kind)∧w'.cell? ⟨w.heap.size+1,2,none⟩=some (.int .i64 m.ret.cls)∧w'.cell? ⟨w.heap.size+1,3,none⟩=some (.int .i64 m.stack)∧w'.cell? ⟨w.heap.size+1,4,none⟩=some (.int .i64 m.locals)∧w'.cell? ⟨w.heap.size+1,5,none⟩=some (.int .i64 m.regs)∧w'.cell? ⟨w.heap.size+1,6,none⟩=some (.slice da m.code.length dcap)∧w'.cell? ⟨w.heap.size+1,7,none⟩=some vh) (hS:=by (try dsimp only);first | exact ⟨⟨r1,r5,s1,s4,u1,u2⟩,q0,q1,q2,q3,q4,q5,q6,q7⟩ | go_keep) (h:=fun hHeld=>?_)
        refine dT 0 334 ?_;refine dT 1 335 ?_;refine dT 2 336 ?_;refine dT 3 337 ?_;refine dT 4 338 ?_;refine dT 5 339 ?_;refine dT 6 340 ?_;refine dT 7 341 ?_;refine dT 8 342 ?_;refine dT 9 343 ?_;refine dT 10 344 ?_;refine dT 11 345 ?_;refine dT 12 346 ?_;refine dT 13 347 ?_;refine dT 14 348 ?_;refine dT 15 349 ?_;refine dT 16 350 ?_;refine Drawn.cl 17 (fun K hK=>?_);go_simp
        go_at_call 115
        refine (regV m _ _ p2 _ _ hp2.out (hm0.out.mono hww.drew (by have:=hww.size;simpa using this)) hr.out).mono ?_
        rintro e w6 ⟨rfl,hb6⟩;have hb7:Below wr.heap.size wr w6:=Below.trans Rd.byB (hb6.mono (by simp))
        go_wp2_with fail
        refine Drawn.bk hK (hS:=by (try dsimp only);exact ⟨⟨kept hb7 (lt_cell r1) r1,kept hb7 (lt_cell r5) r5,kept hb7 (lt_cell s1) s1,kept hb7 (lt_cell s4) s4,kept hb7 (lt_cell u1) u1,kept hb7 (lt_cell u2) u2⟩,kept hb7 (lt_cell q0) q0,kept hb7 (lt_cell q1) q1,kept hb7 (lt_cell q2) q2,kept hb7 (lt_cell q3) q3,kept hb7 (lt_cell q4) q4,kept hb7 (lt_cell q5) q5,kept hb7 (lt_cell q6) q6,kept hb7 (lt_cell q7) q7⟩) (h:=fun hHeld=>?_)
        clear hK K;refine dT 18 352 ?_;refine dN ?_
        cases p2
        ·go_wp2_with fail
         go_ret;exact ⟨ret_bool (hX.out.trans (hno.out (by first | rfl | trivial))).symm,hww.trans (hb7.mono hww.size)⟩
        ·go_wp2_with fail
         go_roundw
         case rel=>exact ⟨j+1,by omega,by go_num,hq.trans (hb7.mono hqs),hyes.out (by first | rfl | trivial)⟩
         case measure=>simp [intOf];omega
       ·have hge:¬ (j:Int) < args.length:=by omega
        have hfin:Hid (Rform.regsOk m.regs x.params args=true):=by
         show _=_
         unfold Rform.regsOk;rw [List.all_eq_true]
         intro u hu
         exact hall.out u (by have:=HL.out;simp at hu;omega)
        go_wp2_with fail
        go_ret;exact ⟨ret_bool (hX.out.trans hfin.out).symm,hww⟩
   have hop3:op=14∨op=15:=by have:=hop2.out;omega
   clear h18 hop2;obtain ⟨XI,hXI⟩:∃ X,Hid (Rform.ins f m ⟨op,a,b,c,n,args⟩=X):=⟨_,rfl⟩
   rcases hop3 with rfl | rfl
   all_goals as_aux_lemma =>
    by_cases har:0 < args.length
    ·have hX:Hid (XI=false):=by show _=_;rw [← hXI.out];simp [Rform.ins,show args.length≠0 by omega]
     go_wp2_with fail
     go_ret;exact ⟨ret_bool (hXI.out.trans hX.out).symm,hwr⟩
    have har0:Hid (args.length=0):=by show _=_;omega
    have hsub:IntKind.i64.wrap ((f.classes.length:Int) - 1)=(f.classes.length:Int) - 1:=by rw [Num.wrap_i64,wrap64_id ⟨by omega,by omega⟩]
    have hXX:Hid (XI=(Form.rng c 0 f.classes.length && Form.rng n 0 (Form.nf f.classes c) && Rform.reg m.regs a (Rform.fk f.classes c n))):=by
     show _=_
     rw [← hXI.out];have hk2:=hkk.out;simp [Rform.kinds] at hk2;obtain ⟨rfl,rfl,rfl⟩:=hk2;have hA2:=hA.out;simp [pick,Rform.fok] at hA2;simp [Rform.ins,Rform.body,Rform.num,har0.out,hA2]
    obtain ⟨p,hp⟩:∃ p,Hid (within c 0 ((f.classes.length:Int) - 1)=p):=⟨_,rfl⟩;have hpr:Hid (Form.rng c 0 f.classes.length=p):=by show _=_;rw [← hp.out,within_rng,Int.sub_add_cancel]
    have hpf:=hp.out
    cases p
    ·
     have hX:Hid (XI=false):=by show _=_;rw [hXX.out,hpr.out];rfl
     go_wp2_with fail
     refine Drawn.hd (fun w'=>w'.cell? ⟨w.heap.size+1+1,3,none⟩=some (.int .i64 c)∧w'.cell? ⟨w.heap.size,0,none⟩=some (.slice ca f.classes.length ccap)∧w'.cell? ⟨w.heap.size+1+1,4,none⟩=some (.int .i64 n)) (hS:=by (try dsimp only);first | exact ⟨y3,c0,y4⟩ | go_keep) (h:=fun hHeld=>?_)
     refine dT 0 121 ?_;refine dT 1 122 ?_;refine dT 2 123 ?_;refine dT 3 124 ?_;refine dT 4 125 ?_;refine dT 5 126 ?_;refine Drawn.cl 6 (fun K hK=>?_);go_simp
     go_at_call 50
     refine (wi _ _ _ _).mono ?_;rintro e w2 ⟨rfl,rfl⟩;rw [hpf]
     go_wp2_with fail
     refine Drawn.bk hK (hS:=by (try dsimp only);exact ⟨y3,c0,y4⟩) (h:=fun hHeld=>?_)
     clear hK K;refine dT 7 128 ?_;refine dT 8 129 ?_;refine dS 9 130 ?_;refine dS 10 131 ?_;refine dS 11 132 ?_;refine dT 12 133 ?_;refine dT 13 134 ?_;refine dS 14 135 ?_;refine dS 15 136 ?_;refine dS 16 137 ?_;refine dS 17 138 ?_;refine dS 18 139 ?_;refine dS 19 140 ?_;refine dS 20 141 ?_;refine dS 21 142 ?_;refine dS 22 143 ?_;refine dS 23 144 ?_;refine dS 24 145 ?_;refine dT 25 146 ?_;refine dN ?_
     go_wp2_with fail
     go_ret;exact ⟨ret_bool (hXI.out.trans hX.out).symm,hwr.drew⟩
    ·
     have hr2:0≤c∧c < f.classes.length:=by simpa [Form.rng] using hpr.out
     obtain ⟨k,rfl⟩:=Int.eq_ofNat_of_zero_le hr2.1;have hk:k < f.classes.length:=by omega
     obtain ⟨b0,o0,rfl,hb0,he⟩:=cel2.out k hk
     have hnf:Hid (Form.nf f.classes (k:Int)=(f.classes[k]).fields.length):=by
      show _=_
      rw [Form.nf,Int.toNat_natCast,Hier.at_eq hk]
     have hfk:Hid (∀ j:Nat,Rform.fk f.classes (k:Int) (j:Int)=((f.classes[k]).fields.getD j ⟨0,0⟩).kind):=by
      intro j
      rw [Rform.fk,Int.toNat_natCast,Int.toNat_natCast,Hier.at_eq hk]
     obtain ⟨x,hx⟩:=at_of hk;rw [hx.out] at he hnf hfk;obtain ⟨_,_,fv,g3,fa,fcap,rfl,flc,fcc,fel⟩:=he;have g4:=kept hwr hb0 g3;have hk0:(0:Int)≤(k:Int)∧(k:Int) < f.classes.length:=⟨by omega,by omega⟩
     have fcI:(x.fields.length:Int)≤9223372036854775807:=by omega
     have fel2:=Lib.hid fel;clear fel g3 hr2
     by_cases n0:n < 0
     ·
      have hX:Hid (XI=false):=by
       show _=_
       rw [hXX.out,show Form.rng n 0 (Form.nf f.classes (k:Int))=false by simp [Form.rng];omega];simp
      have n1:decide (n < 0)=true:=decide_eq_true n0
      go_wp2_with fail
      refine Drawn.hd (fun w'=>w'.cell? ⟨w.heap.size+1+1,3,none⟩=some (.int .i64 (k:Int))∧w'.cell? ⟨w.heap.size,0,none⟩=some (.slice (some ⟨b0,o0,none⟩) f.classes.length ccap)∧w'.cell? ⟨w.heap.size+1+1,4,none⟩=some (.int .i64 n)∧w'.cell? ⟨b0,o0+k*2+1,none⟩=some (.slice fa x.fields.length fcap)) (hS:=by (try dsimp only);first | exact ⟨y3,c0,y4,g4⟩ | go_keep) (h:=fun hHeld=>?_)
      refine dT 0 121 ?_;refine dT 1 122 ?_;refine dT 2 123 ?_;refine dT 3 124 ?_;refine dT 4 125 ?_;refine dT 5 126 ?_;refine Drawn.cl 6 (fun K hK=>?_);go_simp
      go_at_call 50
      refine (wi _ _ _ _).mono ?_;rintro e w2 ⟨rfl,rfl⟩;rw [hpf]
      go_wp2_with fail
      refine Drawn.bk hK (hS:=by (try dsimp only);exact ⟨y3,c0,y4,g4⟩) (h:=fun hHeld=>?_)
      clear hK K;refine dT 7 128 ?_;refine dT 8 129 ?_;refine dT 9 130 ?_;refine dT 10 131 ?_;refine dT 11 132 ?_;refine dT 12 133 ?_;refine dT 13 134 ?_;refine dS 14 135 ?_;refine dS 15 136 ?_;refine dS 16 137 ?_;refine dS 17 138 ?_;refine dS 18 139 ?_;refine dS 19 140 ?_;refine dS 20 141 ?_;refine dS 21 142 ?_;refine dS 22 143 ?_;refine dS 23 144 ?_;refine dS 24 145 ?_;refine dT 25 146 ?_;refine dN ?_
      go_wp2_with fail
      go_ret;exact ⟨ret_bool (hXI.out.trans hX.out).symm,hwr.drew⟩
     ·
      have n1:decide (n < 0)=false:=decide_eq_false n0
      by_cases n2:(x.fields.length:Int)≤n
      ·
       have hX:Hid (XI=false):=by
        show _=_
        rw [hXX.out,hnf.out,show Form.rng n 0 x.fields.length=false by simp [Form.rng];omega];simp
       have n3:decide ((x.fields.length:Int)≤n)=true:=decide_eq_true n2
       go_wp2_with fail
       refine Drawn.hd (fun w'=>w'.cell? ⟨w.heap.size+1+1,3,none⟩=some (.int .i64 (k:Int))∧w'.cell? ⟨w.heap.size,0,none⟩=some (.slice (some ⟨b0,o0,none⟩) f.classes.length ccap)∧w'.cell? ⟨w.heap.size+1+1,4,none⟩=some (.int .i64 n)∧w'.cell? ⟨b0,o0+k*2+1,none⟩=some (.slice fa x.fields.length fcap)) (hS:=by (try dsimp only);first | exact ⟨y3,c0,y4,g4⟩ | go_keep) (h:=fun hHeld=>?_)
       refine dT 0 121 ?_;refine dT 1 122 ?_;refine dT 2 123 ?_;refine dT 3 124 ?_;refine dT 4 125 ?_;refine dT 5 126 ?_;refine Drawn.cl 6 (fun K hK=>?_);go_simp
       go_at_call 50
       refine (wi _ _ _ _).mono ?_;rintro e w2 ⟨rfl,rfl⟩;rw [hpf]
       go_wp2_with fail
       refine Drawn.bk hK (hS:=by (try dsimp only);exact ⟨y3,c0,y4,g4⟩) (h:=fun hHeld=>?_)
       clear hK K;refine dT 7 128 ?_;refine dT 8 129 ?_;refine dT 9 130 ?_;refine dT 10 131 ?_;refine dT 11 132 ?_;refine dT 12 133 ?_;refine dT 13 134 ?_;refine dT 14 135 ?_;refine dT 15 136 ?_;refine dT 16 137 ?_;refine dT 17 138 ?_;refine dT 18 139 ?_;refine dT 19 140 ?_;refine dT 20 141 ?_;refine dT 21 142 ?_;refine dT 22 143 ?_;refine dT 23 144 ?_;refine dT 24 145 ?_;refine dT 25 146 ?_;refine dN ?_
       go_wp2_with fail
       go_ret;exact ⟨ret_bool (hXI.out.trans hX.out).symm,hwr.drew⟩
      ·
       obtain ⟨j,rfl⟩:=Int.eq_ofNat_of_zero_le (show 0≤n by omega)
       have hj:j < x.fields.length:=by omega
       obtain ⟨fb,fo,rfl,hfb,hfe⟩:=fel2.out j hj
       have hfk2:Hid (Rform.fk f.classes (k:Int) (j:Int)=(x.fields[j]).kind):=by
        show _=_
        rw [hfk.out j];simp [hj]
       obtain ⟨t,ht⟩:=at_of hj;rw [ht.out] at hfe hfk2;have e4:=kept hwr hfb hfe.1
       have hX:Hid (XI=Rform.reg m.regs a t.kind):=by
        show _=_
        rw [hXX.out,hpr.out,hnf.out,hfk2.out,show Form.rng (j:Int) 0 x.fields.length=true by simp [Form.rng];omega];simp
       have n3:decide ((x.fields.length:Int)≤(j:Int))=false:=decide_eq_false n2;have hjI:(0:Int)≤(j:Int)∧(j:Int) < x.fields.length:=⟨by omega,by omega⟩
       go_wp2_with fail
       refine Drawn.hd (fun w'=>w'.cell? ⟨w.heap.size+1+1,3,none⟩=some (.int .i64 (k:Int))∧w'.cell? ⟨w.heap.size,0,none⟩=some (.slice (some ⟨b0,o0,none⟩) f.classes.length ccap)∧w'.cell? ⟨w.heap.size+1+1,4,none⟩=some (.int .i64 (j:Int))∧w'.cell? ⟨b0,o0+k*2+1,none⟩=some (.slice (some ⟨fb,fo,none⟩) x.fields.length fcap)) (hS:=by (try dsimp only);first | exact ⟨y3,c0,y4,g4⟩ | go_keep) (h:=fun hHeld=>?_)
       refine dT 0 121 ?_;refine dT 1 122 ?_;refine dT 2 123 ?_;refine dT 3 124 ?_;refine dT 4 125 ?_;refine dT 5 126 ?_;refine Drawn.cl 6 (fun K hK=>?_);go_simp
       go_at_call 50
       refine (wi _ _ _ _).mono ?_;rintro e w2 ⟨rfl,rfl⟩;rw [hpf]
       go_wp2_with fail
       refine Drawn.bk hK (hS:=by (try dsimp only);exact ⟨y3,c0,y4,g4⟩) (h:=fun hHeld=>?_)
       clear hK K;refine dT 7 128 ?_;refine dT 8 129 ?_;refine dT 9 130 ?_;refine dT 10 131 ?_;refine dT 11 132 ?_;refine dT 12 133 ?_;refine dT 13 134 ?_;refine dT 14 135 ?_;refine dT 15 136 ?_;refine dT 16 137 ?_;refine dT 17 138 ?_;refine dT 18 139 ?_;refine dT 19 140 ?_;refine dT 20 141 ?_;refine dT 21 142 ?_;refine dT 22 143 ?_;refine dT 23 144 ?_;refine dT 24 145 ?_;refine dT 25 146 ?_;refine dN ?_;clear hpf n1 n3 hsub
       go_wp2_with fail
       refine Drawn.hd (fun w'=>(w'.cell? ⟨w.heap.size+1+1,1,none⟩=some (.int .i64 a)∧w'.cell? ⟨w.heap.size+1+1,3,none⟩=some (.int .i64 (k:Int))∧w'.cell? ⟨w.heap.size,0,none⟩=some (.slice (some ⟨b0,o0,none⟩) f.classes.length ccap)∧w'.cell? ⟨w.heap.size+1+1,4,none⟩=some (.int .i64 (j:Int))∧w'.cell? ⟨b0,o0+k*2+1,none⟩=some (.slice (some ⟨fb,fo,none⟩) x.fields.length fcap)∧w'.cell? ⟨fb,fo+j*2,none⟩=some (.int .i64 t.kind))∧w'.cell? ⟨w.heap.size+1,0,none⟩=some vp∧w'.cell? ⟨w.heap.size+1,1,none⟩=some (.int .i64 m.ret.kind)∧w'.cell? ⟨w.heap.size+1,2,none⟩=some (.int .i64 m.ret.cls)∧w'.cell? ⟨w.heap.size+1,3,none⟩=some (.int .i64 m.stack)∧w'.cell? ⟨w.heap.size+1,4,none⟩=some (.int .i64 m.locals)∧w'.cell? ⟨w.heap.size+1,5,none⟩=some (.int .i64 m.regs)∧w'.cell? ⟨w.heap.size+1,6,none⟩=some (.slice da m.code.length dcap)∧w'.cell? ⟨w.heap.size+1,7,none⟩=some vh) (hS:=by (try dsimp only);first | exact ⟨⟨y1,y3,c0,y4,g4,e4⟩,d0,d1,d2,d3,d4,d5,d6,d7⟩ | go_keep) (h:=fun hHeld=>?_)
       refine dT 0 147 ?_;refine dT 1 148 ?_;refine dT 2 149 ?_;refine dT 3 150 ?_;refine dT 4 151 ?_;refine dT 5 152 ?_;refine dT 6 153 ?_;refine dT 7 154 ?_;refine dT 8 155 ?_;refine dT 9 156 ?_;refine dT 10 157 ?_;refine dT 11 158 ?_;refine dT 12 159 ?_;refine dT 13 160 ?_;refine dT 14 161 ?_;refine Drawn.cl 15 (fun K hK=>?_);go_simp
       go_at_call 115
       refine (reg m _ _ _ _ (hm0.out.mono hwr.drew.drew (by have:=hwr.size;simpa using this)) hr.out).mono ?_
       rintro e w6 ⟨rfl,hb6⟩;have hb7:Below wr.heap.size wr w6:=Below.trans Rd.byB (hb6.mono (by simp))
       go_wp2_with fail
       refine Drawn.bk hK (hS:=by (try dsimp only);exact ⟨⟨kept hb7 (lt_cell y1) y1,kept hb7 (lt_cell y3) y3,kept hb7 (lt_cell c0) c0,kept hb7 (lt_cell y4) y4,kept hb7 (lt_cell g4) g4,kept hb7 (lt_cell e4) e4⟩,kept hb7 (lt_cell d0) d0,kept hb7 (lt_cell d1) d1,kept hb7 (lt_cell d2) d2,kept hb7 (lt_cell d3) d3,kept hb7 (lt_cell d4) d4,kept hb7 (lt_cell d5) d5,kept hb7 (lt_cell d6) d6,kept hb7 (lt_cell d7) d7⟩) (h:=fun hHeld=>?_)
       clear hK K;refine dT 16 6 ?_;refine dN ?_
       go_wp2_with fail
       go_ret;exact ⟨ret_bool (hXI.out.trans hX.out).symm,hwr.trans (hb7.mono hwr.size)⟩
end RefG
end Go.Proofs.Ytncmhenfgbcihab
