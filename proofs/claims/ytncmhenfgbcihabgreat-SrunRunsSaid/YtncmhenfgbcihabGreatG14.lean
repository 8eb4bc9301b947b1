/- Parts of the proof: Pt2, Pt3, Pu, Pv, Pt4, Px, Ps, Pz, Qa, OuS. -/
import Derived.Test.YtncmhenfgbcihabGreatG13
import Derived.Test.YtncmhenfgbcihabGreatG03
import Derived.Test.YtncmhenfgbcihabGreatG12
import Derived.Laws.EntriesVeiled
import Derived.Test.YtncmhenfgbcihabGreatG11
set_option linter.unusedSimpArgs false
set_option linter.unusedVariables false
set_option maxHeartbeats 8000000
namespace Go.Proofs.YtncmhenfgbcihabGreat
open Go.RowKit
namespace Hpw
open Num Rd D Run Mem HierW
section
variable {E:Ev}{w w' w1 w2:World}{L L' L1:Lay}{h h' h1 h2:Hp}{d:Nat}{P:PS}{m:Me}{fr fr' fr1:Sf}{vs vs1:Value}
def NX (a0:Nat) (a:Run.Act Sf):Prop:=match a with
 | .go fr' _=>fr'.at_=a0+1
 | .back _ _=>False
 | .call _ _ _ _=>False
 | _=>True
theorem push_nx {st:List Vl}{v:Vl}:NX fr.at_ (push m fr st v h):=by
 unfold push;split
 ·exact rfl
 ·trivial
theorem pop1_nx {k:Vl→List Vl→Run.Act Sf}(hk:∀ v st,NX fr.at_ (k v st)):NX fr.at_ (pop1 fr h k):=by
 unfold pop1;split
 ·trivial
 ·exact hk _ _
theorem pop2_nx {k:Vl→Vl→List Vl→Run.Act Sf}(hk:∀ a b st,NX fr.at_ (k a b st)):NX fr.at_ (pop2 fr h k):=by
 unfold pop2
 refine pop1_nx (fun b st=>?_)
 split
 ·trivial
 ·exact hk _ _ _
theorem kindly_nx {v:Vl}{kind:Int}{k:Run.Act Sf}(hk:NX fr.at_ k):NX fr.at_ (kindly v kind h k):=by
 unfold kindly;split
 ·exact hk
 ·trivial
theorem act_nx {α:Type}{r:Res α}{k:α→Hp→Run.Act Sf}(hk:∀ a h,NX fr.at_ (k a h)):NX fr.at_ (r.act k):=by
 cases r with
 | ok a h=>exact hk a h
 | thrown o h=>trivial
 | stop e h=>trivial
theorem ite_nx {c:Prop} [Decidable c] {a b:Run.Act Sf}{n:Nat}(ha:NX n a) (hb:NX n b):NX n (if c then a else b):=by
 split
 ·exact ha
 ·exact hb
theorem sstep_nx {f:Fi}{input:List Int}{i:Ins}(hop:i.op≠11∧i.op≠12∧i.op≠13∧i.op≠19∧i.op≠20∧i.op≠21):NX fr.at_ (sstep f input m i fr h):=by
 unfold sstep
 refine ite_nx push_nx ?_
 refine ite_nx push_nx ?_
 refine ite_nx push_nx ?_
 refine ite_nx (kindly_nx push_nx) ?_
 refine ite_nx (pop1_nx (fun v st=>kindly_nx rfl)) ?_
 refine ite_nx (pop2_nx (fun a b st=>act_nx (fun v h=>push_nx))) ?_
 refine ite_nx (pop2_nx (fun a b st=>act_nx (fun v h=>push_nx))) ?_
 refine ite_nx (pop1_nx (fun v st=>kindly_nx push_nx)) ?_
 refine ite_nx (pop1_nx (fun v st=>kindly_nx push_nx)) ?_
 refine ite_nx (pop2_nx (fun a b st=>kindly_nx (kindly_nx push_nx))) ?_
 rw [if_neg hop.1,if_neg hop.2.1,if_neg hop.2.2.1]
 refine ite_nx (act_nx (fun v h=>push_nx)) ?_
 refine ite_nx (pop1_nx (fun v st=>act_nx (fun v h=>push_nx))) ?_
 refine ite_nx (pop2_nx (fun a b st=>kindly_nx (act_nx (fun v h=>rfl)))) ?_
 refine ite_nx (pop1_nx (fun v st=>act_nx (fun v h=>push_nx))) ?_
 refine ite_nx (pop1_nx (fun v st=>act_nx (fun v h=>push_nx))) ?_
 rw [if_neg hop.2.2.2.1,if_neg hop.2.2.2.2.1,if_neg hop.2.2.2.2.2]
 refine ite_nx (pop1_nx (fun v st=>rfl)) ?_
 refine ite_nx (pop1_nx (fun v st=>ite_nx rfl trivial)) ?_
 refine ite_nx (pop1_nx (fun v st=>act_nx (fun v h=>rfl))) ?_
 refine ite_nx (act_nx (fun v h=>push_nx)) ?_
 exact trivial
set_option maxRecDepth 100000 in
theorem do20v (S:ST E w L P m d h fr vs) (hbig:fr.stk.length≤1000) (hatb:fr.at_≤100000) (hs:h.steps < E.fuel) (hfu:E.fuel≤60000) (a b c n:Int) (args:List Int) (hi:m.code[fr.at_]? = some ⟨20,a,b,c,n,args⟩) (hrk:(m.ret.kind==0)=true) :
  Calls Tryz.prog 54 #[.pointer (some ⟨P.cb,0,none⟩)] w (DoR E L P m d vs fr w (.back Vl.nil (stepped h))):=by
 have HS:=Lib.hid S
 have hcb:=S.cbw
 have hat:fr.at_ < m.code.length:=(List.getElem?_eq_some_iff.1 hi).1
 obtain ⟨ica,icap,hvc,i1,i2,iel⟩:=id S.M.co
 obtain ⟨ib,io,rfl,hib,hie⟩:=iel fr.at_ hat
 have hx:m.code[fr.at_]=⟨20,a,b,c,n,args⟩:=by rw [List.getElem?_eq_getElem hat] at hi;exact Option.some.inj hi
 rw [hx] at hie
 obtain ⟨x0,x1,x2,x3,x4,_,va,x5,hva⟩:=hie
 obtain ⟨aa,acap,rfl,_⟩:=hva
 simp only at x0 x1 x2 x3 x4
 have c7:=S.c7
 rw [hvc] at c7
 have c0:=S.c0
 have c11:=S.c11
 have nr:=S.fo_new (Nat.le_refl _)
 have nrO:¬ own E L w.heap.size:=fun hk=>nr (.inl hk)
 have nib:¬ fo E L P vs ib:=fun hk=>by have:=(S.fo_lo hk).1;omega
 have nibO:¬ own E L ib:=fun hk=>nib (.inl hk)
 have hibw:ib < w.heap.size:=by have:=S.base;omega
 have hati:(fr.at_:Int) < m.code.length:=by omega
 have hatd:decide ((fr.at_:Int) < m.code.length)=true:=by simpa using hati
 have hwr:IntKind.i64.wrap ((fr.at_:Int)+1)=(fr.at_:Int)+1:=by rw [Num.wrap_i64,wrap64_id (by unfold Ok;omega)]
 have HCO:=Lib.hid hvc
 clear S iel hi hx hvc i1
 go_enter Tryz.func54,Tryz.ntmps54
 go_wp2_with (go_at_call 104;refine (stepOk (HS.out.below (by exact Rd.byB)).H hs hfu).mono ?_;rintro e w2 ⟨rfl,H2,K2⟩;have S2:=(HS.out.below (w':=w.alloc (.cells #[.int .i64 0,.int .i64 0] 46)) (by exact Rd.byB)).heap K2 same_own H2;have r0:=K2.cell (c:=w.heap.size) (o:=0) (v:=.int .i64 0) (by go_simp) nrO;have r1:=K2.cell (c:=w.heap.size) (o:=1) (v:=.int .i64 0) (by go_simp) nrO;have rf0:=K2.frz (c:=w.heap.size) (o:=0) (b:=false) (by go_simp) (by simp) nrO;have rf1:=K2.frz (c:=w.heap.size) (o:=1) (b:=false) (by go_simp) (by simp) nrO;have z0:=S2.c0;have z11:=S2.c11;have z7:=S2.c7;rw [HCO.out] at z7;have u0:=K2.cell (c:=ib) (o:=io+fr.at_*6) (v:=.int .i64 (20)) (by go_simp) nibO;have u1:=K2.cell (c:=ib) (o:=io+fr.at_*6+1) (v:=.int .i64 a) (by go_simp) nibO;have u2:=K2.cell (c:=ib) (o:=io+fr.at_*6+2) (v:=.int .i64 b) (by go_simp) nibO;have u3:=K2.cell (c:=ib) (o:=io+fr.at_*6+3) (v:=.int .i64 c) (by go_simp) nibO;have u4:=K2.cell (c:=ib) (o:=io+fr.at_*6+4) (v:=.int .i64 n) (by go_simp) nibO;have u5:=K2.cell (c:=ib) (o:=io+fr.at_*6+5) (v:=.slice aa args.length acap) (by go_simp) nibO;have GW:=Lib.hid (show Gr E L P vs w L vs w2 from ⟨(Kp.of_below (B:=w.heap.size) (X:=fo E L P vs) (w':=w.alloc (.cells #[.int .i64 0,.int .i64 0] 46)) (by exact Rd.byB) (Nat.le_refl _)).trans K2 (fun y hy=>.inl (.inl hy)),fun _ q=>.inl q,fun _ q=>.inl q⟩);have nf2:=S2.fo_new (Nat.le_refl _);have hcb2:=S2.cbw;have hrw:=cell_lt r0;have hib2:=cell_lt u0;replace S2:=Lib.hid S2;clear H2 K2 c7 c0 c11 x0 x1 x2 x3 x4 x5)
 refine Drawn.hd (fun w'=>w'.cell? ⟨P.cb,11,none⟩=some (.int .i64 fr.at_)∧w'.cell? ⟨P.cb,7,none⟩=some (.slice (some ⟨ib,io,none⟩) m.code.length icap)) (h:=fun hHeld=>?_)
 refine Drawn.T 0 (some 12) (h:=?_)
 refine Drawn.T 1 (some 13) (h:=?_)
 refine Drawn.T 2 (some 14) (h:=?_)
 refine Drawn.T 3 (some 15) (h:=?_)
 refine Drawn.T 4 (some 16) (h:=?_)
 refine Drawn.T 5 (some 17) (h:=?_)
 refine Drawn.T 6 (some 18) (h:=?_)
 refine Drawn.T 7 (some 19) (h:=?_)
 refine Drawn.T 8 (some 20) (h:=?_)
 refine Drawn.T 9 (some 21) (h:=?_)
 refine Drawn.T 10 (some 22) (h:=?_)
 refine Drawn.cl 11 (fun K hK=>?_)
 go_simp
 refine (mustT _).mono ?_
 rintro e w3 ⟨rfl,rfl⟩
 go_wp2_with fail
 refine Drawn.bk hK (h:=fun hHeld=>?_)
 clear hK K
 refine wpAnyH_done (by kernel_rfl) ?_ _
 go_wp2_with fail
 refine Drawn.hd (fun w'=>w'.cell? ⟨P.cb,11,none⟩=some (.int .i64 fr.at_)∧w'.cell? ⟨P.cb,7,none⟩=some (.slice (some ⟨ib,io,none⟩) m.code.length icap)∧w'.cell? ⟨ib,io+fr.at_*6,none⟩=some (.int .i64 20)∧w'.cell? ⟨ib,io+fr.at_*6+1,none⟩=some (.int .i64 a)∧w'.cell? ⟨ib,io+fr.at_*6+2,none⟩=some (.int .i64 b)∧w'.cell? ⟨ib,io+fr.at_*6+3,none⟩=some (.int .i64 c)∧w'.cell? ⟨ib,io+fr.at_*6+4,none⟩=some (.int .i64 n)∧w'.cell? ⟨ib,io+fr.at_*6+5,none⟩=some (.slice aa args.length acap)) (h:=fun hHeld=>?_)
 refine Drawn.T 0 (some 24) (h:=?_)
 refine Drawn.T 1 (some 25) (h:=?_)
 refine Drawn.T 2 (some 26) (h:=?_)
 refine Drawn.T 3 (some 27) (h:=?_)
 refine Drawn.T 4 (some 28) (h:=?_)
 refine Drawn.T 5 (some 29) (h:=?_)
 refine Drawn.T 6 (some 30) (h:=?_)
 refine Drawn.T 7 (some 31) (h:=?_)
 refine Drawn.T 8 (some 32) (h:=?_)
 refine Drawn.T 9 (some 33) (h:=?_)
 refine Drawn.T 10 (some 34) (h:=?_)
 refine Drawn.cl 11 (fun K hK=>?_)
 go_simp
 refine Drawn.bk hK (h:=fun hHeld=>?_)
 clear hK K
 refine Drawn.cl 12 (fun K hK=>?_)
 go_simp
 refine Drawn.bk hK (h:=fun hHeld=>?_)
 clear hK K
 refine wpAnyH_done (by kernel_rfl) ?_ _
 generalize hWW:World.drew _=W
 replace hWW:=Lib.hid hWW
 have k0:W.cell? ⟨w2.heap.size,0,none⟩=some (.int .i64 (20)):=by rw [← hWW.out];go_simp
 have k1:W.cell? ⟨w2.heap.size,1,none⟩=some (.int .i64 a):=by rw [← hWW.out];go_simp
 have k2:W.cell? ⟨w2.heap.size,2,none⟩=some (.int .i64 b):=by rw [← hWW.out];go_simp
 have k3:W.cell? ⟨w2.heap.size,3,none⟩=some (.int .i64 c):=by rw [← hWW.out];go_simp
 have k4:W.cell? ⟨w2.heap.size,4,none⟩=some (.int .i64 n):=by rw [← hWW.out];go_simp
 have k5:W.cell? ⟨w2.heap.size,5,none⟩=some (.slice aa args.length acap):=by rw [← hWW.out];go_simp
 have hbW:Below w2.heap.size w2 W:=by rw [← hWW.out];exact Rd.byB
 have hzW:w2.heap.size < W.heap.size:=cell_lt k0
 have SW:=S2.out.below hbW
 have s0:=kept hbW hrw r0
 have s1:=kept hbW hrw r1
 have sf0:=frz_kept hbW hrw rf0
 have sf1:=frz_kept hbW hrw rf1
 have e0:=SW.c0
 have e11:=SW.c11
 have ef11:=SW.fz 11 (by decide)
 have hcbW:=SW.cbw
 have hrW:w.heap.size < W.heap.size:=by omega
 have G:=Lib.hid (GW.out.trans (Gr.of_below hbW))
 replace SW:=Lib.hid SW
 clear hWW r0 r1 rf0 rf1 z0 z11 z7 u0 u1 u2 u3 u4 u5 GW hbW S2
 have e2:=SW.out.c2
 have e3:=SW.out.c3
 go_wp2_with fail
 refine bodyPost_ret (v:=.tuple #[.agg #[.int .i64 0,.int .i64 0],.bool true]) (by simp [results,Tryz.results54,go_sem] <;> go_simp) rfl ?_
 exact ⟨rfl,fr.stk,Gr.upon HS.out G.out SW.out (Nat.le_refl _) nr _ _⟩
set_option maxRecDepth 100000 in
theorem do20n (S:ST E w L P m d h fr vs) (hbig:fr.stk.length≤1000) (hatb:fr.at_≤100000) (hs:h.steps < E.fuel) (hfu:E.fuel≤60000) (a b c n:Int) (args:List Int) (hi:m.code[fr.at_]? = some ⟨20,a,b,c,n,args⟩) (hrk:(m.ret.kind==0)=false) (hn:fr.stk=[]) :
  Calls Tryz.prog 54 #[.pointer (some ⟨P.cb,0,none⟩)] w (DoR E L P m d vs fr w (.stop 6 (stepped h))):=by
 have HS:=Lib.hid S
 have hcb:=S.cbw
 have hat:fr.at_ < m.code.length:=(List.getElem?_eq_some_iff.1 hi).1
 obtain ⟨ica,icap,hvc,i1,i2,iel⟩:=id S.M.co
 obtain ⟨ib,io,rfl,hib,hie⟩:=iel fr.at_ hat
 have hx:m.code[fr.at_]=⟨20,a,b,c,n,args⟩:=by rw [List.getElem?_eq_getElem hat] at hi;exact Option.some.inj hi
 rw [hx] at hie
 obtain ⟨x0,x1,x2,x3,x4,_,va,x5,hva⟩:=hie
 obtain ⟨aa,acap,rfl,_⟩:=hva
 simp only at x0 x1 x2 x3 x4
 have c7:=S.c7
 rw [hvc] at c7
 have c0:=S.c0
 have c11:=S.c11
 have nr:=S.fo_new (Nat.le_refl _)
 have nrO:¬ own E L w.heap.size:=fun hk=>nr (.inl hk)
 have nib:¬ fo E L P vs ib:=fun hk=>by have:=(S.fo_lo hk).1;omega
 have nibO:¬ own E L ib:=fun hk=>nib (.inl hk)
 have hibw:ib < w.heap.size:=by have:=S.base;omega
 have hati:(fr.at_:Int) < m.code.length:=by omega
 have hatd:decide ((fr.at_:Int) < m.code.length)=true:=by simpa using hati
 have hwr:IntKind.i64.wrap ((fr.at_:Int)+1)=(fr.at_:Int)+1:=by rw [Num.wrap_i64,wrap64_id (by unfold Ok;omega)]
 have HCO:=Lib.hid hvc
 clear S iel hi hx hvc i1
 go_enter Tryz.func54,Tryz.ntmps54
 go_wp2_with (go_at_call 104;refine (stepOk (HS.out.below (by exact Rd.byB)).H hs hfu).mono ?_;rintro e w2 ⟨rfl,H2,K2⟩;have S2:=(HS.out.below (w':=w.alloc (.cells #[.int .i64 0,.int .i64 0] 46)) (by exact Rd.byB)).heap K2 same_own H2;have r0:=K2.cell (c:=w.heap.size) (o:=0) (v:=.int .i64 0) (by go_simp) nrO;have r1:=K2.cell (c:=w.heap.size) (o:=1) (v:=.int .i64 0) (by go_simp) nrO;have rf0:=K2.frz (c:=w.heap.size) (o:=0) (b:=false) (by go_simp) (by simp) nrO;have rf1:=K2.frz (c:=w.heap.size) (o:=1) (b:=false) (by go_simp) (by simp) nrO;have z0:=S2.c0;have z11:=S2.c11;have z7:=S2.c7;rw [HCO.out] at z7;have u0:=K2.cell (c:=ib) (o:=io+fr.at_*6) (v:=.int .i64 (20)) (by go_simp) nibO;have u1:=K2.cell (c:=ib) (o:=io+fr.at_*6+1) (v:=.int .i64 a) (by go_simp) nibO;have u2:=K2.cell (c:=ib) (o:=io+fr.at_*6+2) (v:=.int .i64 b) (by go_simp) nibO;have u3:=K2.cell (c:=ib) (o:=io+fr.at_*6+3) (v:=.int .i64 c) (by go_simp) nibO;have u4:=K2.cell (c:=ib) (o:=io+fr.at_*6+4) (v:=.int .i64 n) (by go_simp) nibO;have u5:=K2.cell (c:=ib) (o:=io+fr.at_*6+5) (v:=.slice aa args.length acap) (by go_simp) nibO;have GW:=Lib.hid (show Gr E L P vs w L vs w2 from ⟨(Kp.of_below (B:=w.heap.size) (X:=fo E L P vs) (w':=w.alloc (.cells #[.int .i64 0,.int .i64 0] 46)) (by exact Rd.byB) (Nat.le_refl _)).trans K2 (fun y hy=>.inl (.inl hy)),fun _ q=>.inl q,fun _ q=>.inl q⟩);have nf2:=S2.fo_new (Nat.le_refl _);have hcb2:=S2.cbw;have hrw:=cell_lt r0;have hib2:=cell_lt u0;replace S2:=Lib.hid S2;clear H2 K2 c7 c0 c11 x0 x1 x2 x3 x4 x5)
 refine Drawn.hd (fun w'=>w'.cell? ⟨P.cb,11,none⟩=some (.int .i64 fr.at_)∧w'.cell? ⟨P.cb,7,none⟩=some (.slice (some ⟨ib,io,none⟩) m.code.length icap)) (h:=fun hHeld=>?_)
 refine Drawn.T 0 (some 12) (h:=?_)
 refine Drawn.T 1 (some 13) (h:=?_)
 refine Drawn.T 2 (some 14) (h:=?_)
 refine Drawn.T 3 (some 15) (h:=?_)
 refine Drawn.T 4 (some 16) (h:=?_)
 refine Drawn.T 5 (some 17) (h:=?_)
 refine Drawn.T 6 (some 18) (h:=?_)
 refine Drawn.T 7 (some 19) (h:=?_)
 refine Drawn.T 8 (some 20) (h:=?_)
 refine Drawn.T 9 (some 21) (h:=?_)
 refine Drawn.T 10 (some 22) (h:=?_)
 refine Drawn.cl 11 (fun K hK=>?_)
 go_simp
 refine (mustT _).mono ?_
 rintro e w3 ⟨rfl,rfl⟩
 go_wp2_with fail
 refine Drawn.bk hK (h:=fun hHeld=>?_)
 clear hK K
 refine wpAnyH_done (by kernel_rfl) ?_ _
 go_wp2_with fail
 refine Drawn.hd (fun w'=>w'.cell? ⟨P.cb,11,none⟩=some (.int .i64 fr.at_)∧w'.cell? ⟨P.cb,7,none⟩=some (.slice (some ⟨ib,io,none⟩) m.code.length icap)∧w'.cell? ⟨ib,io+fr.at_*6,none⟩=some (.int .i64 20)∧w'.cell? ⟨ib,io+fr.at_*6+1,none⟩=some (.int .i64 a)∧w'.cell? ⟨ib,io+fr.at_*6+2,none⟩=some (.int .i64 b)∧w'.cell? ⟨ib,io+fr.at_*6+3,none⟩=some (.int .i64 c)∧w'.cell? ⟨ib,io+fr.at_*6+4,none⟩=some (.int .i64 n)∧w'.cell? ⟨ib,io+fr.at_*6+5,none⟩=some (.slice aa args.length acap)) (h:=fun hHeld=>?_)
 refine Drawn.T 0 (some 24) (h:=?_)
 refine Drawn.T 1 (some 25) (h:=?_)
 refine Drawn.T 2 (some 26) (h:=?_)
 refine Drawn.T 3 (some 27) (h:=?_)
 refine Drawn.T 4 (some 28) (h:=?_)
 refine Drawn.T 5 (some 29) (h:=?_)
 refine Drawn.T 6 (some 30) (h:=?_)
 refine Drawn.T 7 (some 31) (h:=?_)
 refine Drawn.T 8 (some 32) (h:=?_)
 refine Drawn.T 9 (some 33) (h:=?_)
 refine Drawn.T 10 (some 34) (h:=?_)
 refine Drawn.cl 11 (fun K hK=>?_)
 go_simp
 refine Drawn.bk hK (h:=fun hHeld=>?_)
 clear hK K
 refine Drawn.cl 12 (fun K hK=>?_)
 go_simp
 refine Drawn.bk hK (h:=fun hHeld=>?_)
 clear hK K
 refine wpAnyH_done (by kernel_rfl) ?_ _
 generalize hWW:World.drew _=W
 replace hWW:=Lib.hid hWW
 have k0:W.cell? ⟨w2.heap.size,0,none⟩=some (.int .i64 (20)):=by rw [← hWW.out];go_simp
 have k1:W.cell? ⟨w2.heap.size,1,none⟩=some (.int .i64 a):=by rw [← hWW.out];go_simp
 have k2:W.cell? ⟨w2.heap.size,2,none⟩=some (.int .i64 b):=by rw [← hWW.out];go_simp
 have k3:W.cell? ⟨w2.heap.size,3,none⟩=some (.int .i64 c):=by rw [← hWW.out];go_simp
 have k4:W.cell? ⟨w2.heap.size,4,none⟩=some (.int .i64 n):=by rw [← hWW.out];go_simp
 have k5:W.cell? ⟨w2.heap.size,5,none⟩=some (.slice aa args.length acap):=by rw [← hWW.out];go_simp
 have hbW:Below w2.heap.size w2 W:=by rw [← hWW.out];exact Rd.byB
 have hzW:w2.heap.size < W.heap.size:=cell_lt k0
 have SW:=S2.out.below hbW
 have s0:=kept hbW hrw r0
 have s1:=kept hbW hrw r1
 have sf0:=frz_kept hbW hrw rf0
 have sf1:=frz_kept hbW hrw rf1
 have e0:=SW.c0
 have e11:=SW.c11
 have ef11:=SW.fz 11 (by decide)
 have hcbW:=SW.cbw
 have hrW:w.heap.size < W.heap.size:=by omega
 have G:=Lib.hid (GW.out.trans (Gr.of_below hbW))
 replace SW:=Lib.hid SW
 clear hWW r0 r1 rf0 rf1 z0 z11 z7 u0 u1 u2 u3 u4 u5 GW hbW S2
 have e2:=SW.out.c2
 have e3:=SW.out.c3
 go_wp2_with fail
 go_at_call 105
 refine (anyNo (SW.out.below (by exact Rd.byB)) hn).mono ?_
 rintro e w4 ⟨rfl,hb4⟩
 have HB4:Below W.heap.size W w4:=Below.trans (by exact Rd.byB) (hb4.mono Rd.byL)
 unfold pan
 refine And.intro rfl ?_
 exact ⟨Pan.one _,((G.out.trans (Gr.of_below HB4)).lft (SW.out.below HB4)).stop⟩
set_option maxRecDepth 100000 in
theorem do20t (S:ST E w L P m d h fr vs) (hbig:fr.stk.length≤1000) (hatb:fr.at_≤100000) (hs:h.steps < E.fuel) (hfu:E.fuel≤60000) (a b c n:Int) (args:List Int) (hi:m.code[fr.at_]? = some ⟨20,a,b,c,n,args⟩) (hrk:(m.ret.kind==0)=false) (hn:fr.stk≠[]) (hm:Hier.may E.f.classes=true) (h3:(top fr.stk).kind=3→(top fr.stk).n < h.objs.length) (hof:ofT E.f.classes (stepped h) (top fr.stk) m.ret=true) :
  Calls Tryz.prog 54 #[.pointer (some ⟨P.cb,0,none⟩)] w (DoR E L P m d vs fr w (.back (top fr.stk) (stepped h))):=by
 obtain ⟨⟨tk,tn⟩,ht⟩:∃ t,Hid (top fr.stk=t):=⟨_,Lib.hid rfl⟩
 rw [ht.out] at hof h3
 simp only at h3
 rw [ht.out]
 have HS:=Lib.hid S
 have hcb:=S.cbw
 have hat:fr.at_ < m.code.length:=(List.getElem?_eq_some_iff.1 hi).1
 obtain ⟨ica,icap,hvc,i1,i2,iel⟩:=id S.M.co
 obtain ⟨ib,io,rfl,hib,hie⟩:=iel fr.at_ hat
 have hx:m.code[fr.at_]=⟨20,a,b,c,n,args⟩:=by rw [List.getElem?_eq_getElem hat] at hi;exact Option.some.inj hi
 rw [hx] at hie
 obtain ⟨x0,x1,x2,x3,x4,_,va,x5,hva⟩:=hie
 obtain ⟨aa,acap,rfl,_⟩:=hva
 simp only at x0 x1 x2 x3 x4
 have c7:=S.c7
 rw [hvc] at c7
 have c0:=S.c0
 have c11:=S.c11
 have nr:=S.fo_new (Nat.le_refl _)
 have nrO:¬ own E L w.heap.size:=fun hk=>nr (.inl hk)
 have nib:¬ fo E L P vs ib:=fun hk=>by have:=(S.fo_lo hk).1;omega
 have nibO:¬ own E L ib:=fun hk=>nib (.inl hk)
 have hibw:ib < w.heap.size:=by have:=S.base;omega
 have hati:(fr.at_:Int) < m.code.length:=by omega
 have hatd:decide ((fr.at_:Int) < m.code.length)=true:=by simpa using hati
 have hwr:IntKind.i64.wrap ((fr.at_:Int)+1)=(fr.at_:Int)+1:=by rw [Num.wrap_i64,wrap64_id (by unfold Ok;omega)]
 have HCO:=Lib.hid hvc
 clear S iel hi hx hvc i1
 go_enter Tryz.func54,Tryz.ntmps54
 go_wp2_with (go_at_call 104;refine (stepOk (HS.out.below (by exact Rd.byB)).H hs hfu).mono ?_;rintro e w2 ⟨rfl,H2,K2⟩;have S2:=(HS.out.below (w':=w.alloc (.cells #[.int .i64 0,.int .i64 0] 46)) (by exact Rd.byB)).heap K2 same_own H2;have r0:=K2.cell (c:=w.heap.size) (o:=0) (v:=.int .i64 0) (by go_simp) nrO;have r1:=K2.cell (c:=w.heap.size) (o:=1) (v:=.int .i64 0) (by go_simp) nrO;have rf0:=K2.frz (c:=w.heap.size) (o:=0) (b:=false) (by go_simp) (by simp) nrO;have rf1:=K2.frz (c:=w.heap.size) (o:=1) (b:=false) (by go_simp) (by simp) nrO;have z0:=S2.c0;have z11:=S2.c11;have z7:=S2.c7;rw [HCO.out] at z7;have u0:=K2.cell (c:=ib) (o:=io+fr.at_*6) (v:=.int .i64 (20)) (by go_simp) nibO;have u1:=K2.cell (c:=ib) (o:=io+fr.at_*6+1) (v:=.int .i64 a) (by go_simp) nibO;have u2:=K2.cell (c:=ib) (o:=io+fr.at_*6+2) (v:=.int .i64 b) (by go_simp) nibO;have u3:=K2.cell (c:=ib) (o:=io+fr.at_*6+3) (v:=.int .i64 c) (by go_simp) nibO;have u4:=K2.cell (c:=ib) (o:=io+fr.at_*6+4) (v:=.int .i64 n) (by go_simp) nibO;have u5:=K2.cell (c:=ib) (o:=io+fr.at_*6+5) (v:=.slice aa args.length acap) (by go_simp) nibO;have GW:=Lib.hid (show Gr E L P vs w L vs w2 from ⟨(Kp.of_below (B:=w.heap.size) (X:=fo E L P vs) (w':=w.alloc (.cells #[.int .i64 0,.int .i64 0] 46)) (by exact Rd.byB) (Nat.le_refl _)).trans K2 (fun y hy=>.inl (.inl hy)),fun _ q=>.inl q,fun _ q=>.inl q⟩);have nf2:=S2.fo_new (Nat.le_refl _);have hcb2:=S2.cbw;have hrw:=cell_lt r0;have hib2:=cell_lt u0;replace S2:=Lib.hid S2;clear H2 K2 c7 c0 c11 x0 x1 x2 x3 x4 x5)
 refine Drawn.hd (fun w'=>w'.cell? ⟨P.cb,11,none⟩=some (.int .i64 fr.at_)∧w'.cell? ⟨P.cb,7,none⟩=some (.slice (some ⟨ib,io,none⟩) m.code.length icap)) (h:=fun hHeld=>?_)
 refine Drawn.T 0 (some 12) (h:=?_)
 refine Drawn.T 1 (some 13) (h:=?_)
 refine Drawn.T 2 (some 14) (h:=?_)
 refine Drawn.T 3 (some 15) (h:=?_)
 refine Drawn.T 4 (some 16) (h:=?_)
 refine Drawn.T 5 (some 17) (h:=?_)
 refine Drawn.T 6 (some 18) (h:=?_)
 refine Drawn.T 7 (some 19) (h:=?_)
 refine Drawn.T 8 (some 20) (h:=?_)
 refine Drawn.T 9 (some 21) (h:=?_)
 refine Drawn.T 10 (some 22) (h:=?_)
 refine Drawn.cl 11 (fun K hK=>?_)
 go_simp
 refine (mustT _).mono ?_
 rintro e w3 ⟨rfl,rfl⟩
 go_wp2_with fail
 refine Drawn.bk hK (h:=fun hHeld=>?_)
 clear hK K
 refine wpAnyH_done (by kernel_rfl) ?_ _
 go_wp2_with fail
 refine Drawn.hd (fun w'=>w'.cell? ⟨P.cb,11,none⟩=some (.int .i64 fr.at_)∧w'.cell? ⟨P.cb,7,none⟩=some (.slice (some ⟨ib,io,none⟩) m.code.length icap)∧w'.cell? ⟨ib,io+fr.at_*6,none⟩=some (.int .i64 20)∧w'.cell? ⟨ib,io+fr.at_*6+1,none⟩=some (.int .i64 a)∧w'.cell? ⟨ib,io+fr.at_*6+2,none⟩=some (.int .i64 b)∧w'.cell? ⟨ib,io+fr.at_*6+3,none⟩=some (.int .i64 c)∧w'.cell? ⟨ib,io+fr.at_*6+4,none⟩=some (.int .i64 n)∧w'.cell? ⟨ib,io+fr.at_*6+5,none⟩=some (.slice aa args.length acap)) (h:=fun hHeld=>?_)
 refine Drawn.T 0 (some 24) (h:=?_)
 refine Drawn.T 1 (some 25) (h:=?_)
 refine Drawn.T 2 (some 26) (h:=?_)
 refine Drawn.T 3 (some 27) (h:=?_)
 refine Drawn.T 4 (some 28) (h:=?_)
 refine Drawn.T 5 (some 29) (h:=?_)
 refine Drawn.T 6 (some 30) (h:=?_)
 refine Drawn.T 7 (some 31) (h:=?_)
 refine Drawn.T 8 (some 32) (h:=?_)
 refine Drawn.T 9 (some 33) (h:=?_)
 refine Drawn.T 10 (some 34) (h:=?_)
 refine Drawn.cl 11 (fun K hK=>?_)
 go_simp
 refine Drawn.bk hK (h:=fun hHeld=>?_)
 clear hK K
 refine Drawn.cl 12 (fun K hK=>?_)
 go_simp
 refine Drawn.bk hK (h:=fun hHeld=>?_)
 clear hK K
 refine wpAnyH_done (by kernel_rfl) ?_ _
 generalize hWW:World.drew _=W
 replace hWW:=Lib.hid hWW
 have k0:W.cell? ⟨w2.heap.size,0,none⟩=some (.int .i64 (20)):=by rw [← hWW.out];go_simp
 have k1:W.cell? ⟨w2.heap.size,1,none⟩=some (.int .i64 a):=by rw [← hWW.out];go_simp
 have k2:W.cell? ⟨w2.heap.size,2,none⟩=some (.int .i64 b):=by rw [← hWW.out];go_simp
 have k3:W.cell? ⟨w2.heap.size,3,none⟩=some (.int .i64 c):=by rw [← hWW.out];go_simp
 have k4:W.cell? ⟨w2.heap.size,4,none⟩=some (.int .i64 n):=by rw [← hWW.out];go_simp
 have k5:W.cell? ⟨w2.heap.size,5,none⟩=some (.slice aa args.length acap):=by rw [← hWW.out];go_simp
 have hbW:Below w2.heap.size w2 W:=by rw [← hWW.out];exact Rd.byB
 have hzW:w2.heap.size < W.heap.size:=cell_lt k0
 have SW:=S2.out.below hbW
 have s0:=kept hbW hrw r0
 have s1:=kept hbW hrw r1
 have sf0:=frz_kept hbW hrw rf0
 have sf1:=frz_kept hbW hrw rf1
 have e0:=SW.c0
 have e11:=SW.c11
 have ef11:=SW.fz 11 (by decide)
 have hcbW:=SW.cbw
 have hrW:w.heap.size < W.heap.size:=by omega
 have G:=Lib.hid (GW.out.trans (Gr.of_below hbW))
 replace SW:=Lib.hid SW
 clear hWW r0 r1 rf0 rf1 z0 z11 z7 u0 u1 u2 u3 u4 u5 GW hbW S2
 have e2:=SW.out.c2
 have e3:=SW.out.c3
 go_wp2_with fail
 go_at_call 105
 refine (anyOk (SW.out.below (by exact Rd.byB)) hn hbig).mono ?_
 rw [ht.out]
 unfold vl
 rintro e w4 ⟨rfl,A⟩
 obtain ⟨L4,v4,G4,S4⟩:=A.opn
 have t0:=G4.cell (b:=w.heap.size) (o:=0) (v:=.int .i64 0) nr (by go_simp)
 have t1:=G4.cell (b:=w.heap.size) (o:=1) (v:=.int .i64 0) nr (by go_simp)
 have tf0:=G4.frz (b:=w.heap.size) (o:=0) (x:=false) nr (by first | omega | (simp;done) | (simp;omega)) (by go_simp)
 have tf1:=G4.frz (b:=w.heap.size) (o:=1) (x:=false) nr (by first | omega | (simp;done) | (simp;omega)) (by go_simp)
 have nr4:=G4.nf (by first | omega | (simp;done) | (simp;omega)) nr
 have GB:=Lib.hid ((G.out.trans (Gr.of_below (by exact Rd.byB))).trans G4)
 have hrw4:=cell_lt t0
 have z0:=S4.c0
 have z2:=S4.c2
 have z3:=S4.c3
 have hcb4:=S4.cbw
 replace S4:=Lib.hid S4
 clear A G4 s0 s1 sf0 sf1 k0 k1 k2 k3 k4 k5 e0 e2 e3 e11 ef11
 go_wp2_with fail
 refine Drawn.hd (fun w'=>w'.cell? ⟨P.cb,0,none⟩=some (.pointer (some ⟨E.hb,0,none⟩))∧w'.cell? ⟨P.cb,2,none⟩=some (.int .i64 m.ret.kind)∧w'.cell? ⟨P.cb,3,none⟩=some (.int .i64 m.ret.cls)∧w'.cell? ⟨w4.heap.size,0,none⟩=some (.int .i64 tk)∧w'.cell? ⟨w4.heap.size,1,none⟩=some (.int .i64 tn)) (h:=fun hHeld=>?_)
 refine Drawn.T 0 (some 57) (h:=?_)
 refine Drawn.T 1 (some 58) (h:=?_)
 refine Drawn.T 2 (some 59) (h:=?_)
 refine Drawn.T 3 (some 60) (h:=?_)
 refine Drawn.T 4 (some 61) (h:=?_)
 refine Drawn.T 5 (some 62) (h:=?_)
 refine Drawn.T 6 (some 63) (h:=?_)
 refine Drawn.T 7 (some 64) (h:=?_)
 refine Drawn.T 8 (some 65) (h:=?_)
 refine Drawn.T 9 (some 66) (h:=?_)
 refine Drawn.cl 10 (fun K hK=>?_)
 go_simp
 go_at_call 98
 refine (of E L4 (stepped h) d ⟨tk,tn⟩ m.ret _ (S4.out.below (by exact Rd.byB)).H hm (fun q=>h3 q)).mono ?_
 rw [hof]
 rintro e w5 ⟨rfl,hb5⟩
 have u0:w5.cell? ⟨P.cb,0,none⟩=some (.pointer (some ⟨E.hb,0,none⟩)):=kept hb5 (by first | omega | (simp;done) | (simp;omega)) (by go_simp)
 have u1:w5.cell? ⟨P.cb,2,none⟩=some (.int .i64 m.ret.kind):=kept hb5 (by first | omega | (simp;done) | (simp;omega)) (by go_simp)
 have u2:w5.cell? ⟨P.cb,3,none⟩=some (.int .i64 m.ret.cls):=kept hb5 (by first | omega | (simp;done) | (simp;omega)) (by go_simp)
 have u3:w5.cell? ⟨w4.heap.size,0,none⟩=some (.int .i64 tk):=kept hb5 (by first | omega | (simp;done) | (simp;omega)) (by go_simp)
 have u4:w5.cell? ⟨w4.heap.size,1,none⟩=some (.int .i64 tn):=kept hb5 (by first | omega | (simp;done) | (simp;omega)) (by go_simp)
 have u5:w5.cell? ⟨w.heap.size,0,none⟩=some (.int .i64 0):=kept hb5 (by first | omega | (simp;done) | (simp;omega)) (by go_simp)
 have u6:w5.cell? ⟨w.heap.size,1,none⟩=some (.int .i64 0):=kept hb5 (by first | omega | (simp;done) | (simp;omega)) (by go_simp)
 have uf0:w5.frozen? ⟨w.heap.size,0,none⟩=false:=frz_kept hb5 (by first | omega | (simp;done) | (simp;omega)) (by go_simp)
 have uf1:w5.frozen? ⟨w.heap.size,1,none⟩=false:=frz_kept hb5 (by first | omega | (simp;done) | (simp;omega)) (by go_simp)
 have HB5:Below w4.heap.size w4 w5:=Below.trans (by exact Rd.byB) (hb5.mono Rd.byL)
 have GC:=Lib.hid (GB.out.trans (Gr.of_below HB5))
 have S5:=Lib.hid (S4.out.below HB5)
 have hrw5:w.heap.size < w5.heap.size:=cell_lt u5
 clear t0 t1 tf0 tf1 z0 z2 z3 hb5 HB5
 go_wp2_with fail
 refine Drawn.bk hK (h:=fun hHeld=>?_)
 clear hK K
 refine Drawn.cl 11 (fun K hK=>?_)
 go_simp
 go_at_call 97
 refine (mustT _).mono ?_
 rintro e w6 ⟨rfl,rfl⟩
 go_wp2_with fail
 refine Drawn.bk hK (h:=fun hHeld=>?_)
 clear hK K
 refine wpAnyH_done (by kernel_rfl) ?_ _
 go_wp2_with fail
 refine bodyPost_ret (v:=.tuple #[.agg #[.int .i64 tk,.int .i64 tn],.bool true]) (by simp [results,Tryz.results54,go_sem] <;> go_simp) rfl ?_
 exact ⟨rfl,fr.stk.dropLast,Gr.upon HS.out GC.out S5.out (Nat.le_refl _) nr4 _ _⟩
set_option maxRecDepth 100000 in
theorem do20f (S:ST E w L P m d h fr vs) (hbig:fr.stk.length≤1000) (hatb:fr.at_≤100000) (hs:h.steps < E.fuel) (hfu:E.fuel≤60000) (a b c n:Int) (args:List Int) (hi:m.code[fr.at_]? = some ⟨20,a,b,c,n,args⟩) (hrk:(m.ret.kind==0)=false) (hn:fr.stk≠[]) (hm:Hier.may E.f.classes=true) (h3:(top fr.stk).kind=3→(top fr.stk).n < h.objs.length) (hof:ofT E.f.classes (stepped h) (top fr.stk) m.ret=false) :
  Calls Tryz.prog 54 #[.pointer (some ⟨P.cb,0,none⟩)] w (DoR E L P m d vs fr w (.stop 6 (stepped h))):=by
 obtain ⟨⟨tk,tn⟩,ht⟩:∃ t,Hid (top fr.stk=t):=⟨_,Lib.hid rfl⟩
 rw [ht.out] at hof h3
 simp only at h3
 have HS:=Lib.hid S
 have hcb:=S.cbw
 have hat:fr.at_ < m.code.length:=(List.getElem?_eq_some_iff.1 hi).1
 obtain ⟨ica,icap,hvc,i1,i2,iel⟩:=id S.M.co
 obtain ⟨ib,io,rfl,hib,hie⟩:=iel fr.at_ hat
 have hx:m.code[fr.at_]=⟨20,a,b,c,n,args⟩:=by rw [List.getElem?_eq_getElem hat] at hi;exact Option.some.inj hi
 rw [hx] at hie
 obtain ⟨x0,x1,x2,x3,x4,_,va,x5,hva⟩:=hie
 obtain ⟨aa,acap,rfl,_⟩:=hva
 simp only at x0 x1 x2 x3 x4
 have c7:=S.c7
 rw [hvc] at c7
 have c0:=S.c0
 have c11:=S.c11
 have nr:=S.fo_new (Nat.le_refl _)
 have nrO:¬ own E L w.heap.size:=fun hk=>nr (.inl hk)
 have nib:¬ fo E L P vs ib:=fun hk=>by have:=(S.fo_lo hk).1;omega
 have nibO:¬ own E L ib:=fun hk=>nib (.inl hk)
 have hibw:ib < w.heap.size:=by have:=S.base;omega
 have hati:(fr.at_:Int) < m.code.length:=by omega
 have hatd:decide ((fr.at_:Int) < m.code.length)=true:=by simpa using hati
 have hwr:IntKind.i64.wrap ((fr.at_:Int)+1)=(fr.at_:Int)+1:=by rw [Num.wrap_i64,wrap64_id (by unfold Ok;omega)]
 have HCO:=Lib.hid hvc
 clear S iel hi hx hvc i1
 go_enter Tryz.func54,Tryz.ntmps54
 go_wp2_with (go_at_call 104;refine (stepOk (HS.out.below (by exact Rd.byB)).H hs hfu).mono ?_;rintro e w2 ⟨rfl,H2,K2⟩;have S2:=(HS.out.below (w':=w.alloc (.cells #[.int .i64 0,.int .i64 0] 46)) (by exact Rd.byB)).heap K2 same_own H2;have r0:=K2.cell (c:=w.heap.size) (o:=0) (v:=.int .i64 0) (by go_simp) nrO;have r1:=K2.cell (c:=w.heap.size) (o:=1) (v:=.int .i64 0) (by go_simp) nrO;have rf0:=K2.frz (c:=w.heap.size) (o:=0) (b:=false) (by go_simp) (by simp) nrO;have rf1:=K2.frz (c:=w.heap.size) (o:=1) (b:=false) (by go_simp) (by simp) nrO;have z0:=S2.c0;have z11:=S2.c11;have z7:=S2.c7;rw [HCO.out] at z7;have u0:=K2.cell (c:=ib) (o:=io+fr.at_*6) (v:=.int .i64 (20)) (by go_simp) nibO;have u1:=K2.cell (c:=ib) (o:=io+fr.at_*6+1) (v:=.int .i64 a) (by go_simp) nibO;have u2:=K2.cell (c:=ib) (o:=io+fr.at_*6+2) (v:=.int .i64 b) (by go_simp) nibO;have u3:=K2.cell (c:=ib) (o:=io+fr.at_*6+3) (v:=.int .i64 c) (by go_simp) nibO;have u4:=K2.cell (c:=ib) (o:=io+fr.at_*6+4) (v:=.int .i64 n) (by go_simp) nibO;have u5:=K2.cell (c:=ib) (o:=io+fr.at_*6+5) (v:=.slice aa args.length acap) (by go_simp) nibO;have GW:=Lib.hid (show Gr E L P vs w L vs w2 from ⟨(Kp.of_below (B:=w.heap.size) (X:=fo E L P vs) (w':=w.alloc (.cells #[.int .i64 0,.int .i64 0] 46)) (by exact Rd.byB) (Nat.le_refl _)).trans K2 (fun y hy=>.inl (.inl hy)),fun _ q=>.inl q,fun _ q=>.inl q⟩);have nf2:=S2.fo_new (Nat.le_refl _);have hcb2:=S2.cbw;have hrw:=cell_lt r0;have hib2:=cell_lt u0;replace S2:=Lib.hid S2;clear H2 K2 c7 c0 c11 x0 x1 x2 x3 x4 x5)
 refine Drawn.hd (fun w'=>w'.cell? ⟨P.cb,11,none⟩=some (.int .i64 fr.at_)∧w'.cell? ⟨P.cb,7,none⟩=some (.slice (some ⟨ib,io,none⟩) m.code.length icap)) (h:=fun hHeld=>?_)
 refine Drawn.T 0 (some 12) (h:=?_)
 refine Drawn.T 1 (some 13) (h:=?_)
 refine Drawn.T 2 (some 14) (h:=?_)
 refine Drawn.T 3 (some 15) (h:=?_)
 refine Drawn.T 4 (some 16) (h:=?_)
 refine Drawn.T 5 (some 17) (h:=?_)
 refine Drawn.T 6 (some 18) (h:=?_)
 refine Drawn.T 7 (some 19) (h:=?_)
 refine Drawn.T 8 (some 20) (h:=?_)
 refine Drawn.T 9 (some 21) (h:=?_)
 refine Drawn.T 10 (some 22) (h:=?_)
 refine Drawn.cl 11 (fun K hK=>?_)
 go_simp
 refine (mustT _).mono ?_
 rintro e w3 ⟨rfl,rfl⟩
 go_wp2_with fail
 refine Drawn.bk hK (h:=fun hHeld=>?_)
 clear hK K
 refine wpAnyH_done (by kernel_rfl) ?_ _
 go_wp2_with fail
 refine Drawn.hd (fun w'=>w'.cell? ⟨P.cb,11,none⟩=some (.int .i64 fr.at_)∧w'.cell? ⟨P.cb,7,none⟩=some (.slice (some ⟨ib,io,none⟩) m.code.length icap)∧w'.cell? ⟨ib,io+fr.at_*6,none⟩=some (.int .i64 20)∧w'.cell? ⟨ib,io+fr.at_*6+1,none⟩=some (.int .i64 a)∧w'.cell? ⟨ib,io+fr.at_*6+2,none⟩=some (.int .i64 b)∧w'.cell? ⟨ib,io+fr.at_*6+3,none⟩=some (.int .i64 c)∧w'.cell? ⟨ib,io+fr.at_*6+4,none⟩=some (.int .i64 n)∧w'.cell? ⟨ib,io+fr.at_*6+5,none⟩=some (.slice aa args.length acap)) (h:=fun hHeld=>?_)
 refine Drawn.T 0 (some 24) (h:=?_)
 refine Drawn.T 1 (some 25) (h:=?_)
 refine Drawn.T 2 (some 26) (h:=?_)
 refine Drawn.T 3 (some 27) (h:=?_)
 refine Drawn.T 4 (some 28) (h:=?_)
 refine Drawn.T 5 (some 29) (h:=?_)
 refine Drawn.T 6 (some 30) (h:=?_)
 refine Drawn.T 7 (some 31) (h:=?_)
 refine Drawn.T 8 (some 32) (h:=?_)
 refine Drawn.T 9 (some 33) (h:=?_)
 refine Drawn.T 10 (some 34) (h:=?_)
 refine Drawn.cl 11 (fun K hK=>?_)
 go_simp
 refine Drawn.bk hK (h:=fun hHeld=>?_)
 clear hK K
 refine Drawn.cl 12 (fun K hK=>?_)
 go_simp
 refine Drawn.bk hK (h:=fun hHeld=>?_)
 clear hK K
 refine wpAnyH_done (by kernel_rfl) ?_ _
 generalize hWW:World.drew _=W
 replace hWW:=Lib.hid hWW
 have k0:W.cell? ⟨w2.heap.size,0,none⟩=some (.int .i64 (20)):=by rw [← hWW.out];go_simp
 have k1:W.cell? ⟨w2.heap.size,1,none⟩=some (.int .i64 a):=by rw [← hWW.out];go_simp
 have k2:W.cell? ⟨w2.heap.size,2,none⟩=some (.int .i64 b):=by rw [← hWW.out];go_simp
 have k3:W.cell? ⟨w2.heap.size,3,none⟩=some (.int .i64 c):=by rw [← hWW.out];go_simp
 have k4:W.cell? ⟨w2.heap.size,4,none⟩=some (.int .i64 n):=by rw [← hWW.out];go_simp
 have k5:W.cell? ⟨w2.heap.size,5,none⟩=some (.slice aa args.length acap):=by rw [← hWW.out];go_simp
 have hbW:Below w2.heap.size w2 W:=by rw [← hWW.out];exact Rd.byB
 have hzW:w2.heap.size < W.heap.size:=cell_lt k0
 have SW:=S2.out.below hbW
 have s0:=kept hbW hrw r0
 have s1:=kept hbW hrw r1
 have sf0:=frz_kept hbW hrw rf0
 have sf1:=frz_kept hbW hrw rf1
 have e0:=SW.c0
 have e11:=SW.c11
 have ef11:=SW.fz 11 (by decide)
 have hcbW:=SW.cbw
 have hrW:w.heap.size < W.heap.size:=by omega
 have G:=Lib.hid (GW.out.trans (Gr.of_below hbW))
 replace SW:=Lib.hid SW
 clear hWW r0 r1 rf0 rf1 z0 z11 z7 u0 u1 u2 u3 u4 u5 GW hbW S2
 have e2:=SW.out.c2
 have e3:=SW.out.c3
 go_wp2_with fail
 go_at_call 105
 refine (anyOk (SW.out.below (by exact Rd.byB)) hn hbig).mono ?_
 rw [ht.out]
 unfold vl
 rintro e w4 ⟨rfl,A⟩
 obtain ⟨L4,v4,G4,S4⟩:=A.opn
 have t0:=G4.cell (b:=w.heap.size) (o:=0) (v:=.int .i64 0) nr (by go_simp)
 have t1:=G4.cell (b:=w.heap.size) (o:=1) (v:=.int .i64 0) nr (by go_simp)
 have tf0:=G4.frz (b:=w.heap.size) (o:=0) (x:=false) nr (by first | omega | (simp;done) | (simp;omega)) (by go_simp)
 have tf1:=G4.frz (b:=w.heap.size) (o:=1) (x:=false) nr (by first | omega | (simp;done) | (simp;omega)) (by go_simp)
 have nr4:=G4.nf (by first | omega | (simp;done) | (simp;omega)) nr
 have GB:=Lib.hid ((G.out.trans (Gr.of_below (by exact Rd.byB))).trans G4)
 have hrw4:=cell_lt t0
 have z0:=S4.c0
 have z2:=S4.c2
 have z3:=S4.c3
 have hcb4:=S4.cbw
 replace S4:=Lib.hid S4
 clear A G4 s0 s1 sf0 sf1 k0 k1 k2 k3 k4 k5 e0 e2 e3 e11 ef11
 go_wp2_with fail
 refine Drawn.hd (fun w'=>w'.cell? ⟨P.cb,0,none⟩=some (.pointer (some ⟨E.hb,0,none⟩))∧w'.cell? ⟨P.cb,2,none⟩=some (.int .i64 m.ret.kind)∧w'.cell? ⟨P.cb,3,none⟩=some (.int .i64 m.ret.cls)∧w'.cell? ⟨w4.heap.size,0,none⟩=some (.int .i64 tk)∧w'.cell? ⟨w4.heap.size,1,none⟩=some (.int .i64 tn)) (h:=fun hHeld=>?_)
 refine Drawn.T 0 (some 57) (h:=?_)
 refine Drawn.T 1 (some 58) (h:=?_)
 refine Drawn.T 2 (some 59) (h:=?_)
 refine Drawn.T 3 (some 60) (h:=?_)
 refine Drawn.T 4 (some 61) (h:=?_)
 refine Drawn.T 5 (some 62) (h:=?_)
 refine Drawn.T 6 (some 63) (h:=?_)
 refine Drawn.T 7 (some 64) (h:=?_)
 refine Drawn.T 8 (some 65) (h:=?_)
 refine Drawn.T 9 (some 66) (h:=?_)
 refine Drawn.cl 10 (fun K hK=>?_)
 go_simp
 go_at_call 98
 refine (of E L4 (stepped h) d ⟨tk,tn⟩ m.ret _ (S4.out.below (by exact Rd.byB)).H hm (fun q=>h3 q)).mono ?_
 rw [hof]
 rintro e w5 ⟨rfl,hb5⟩
 have u0:w5.cell? ⟨P.cb,0,none⟩=some (.pointer (some ⟨E.hb,0,none⟩)):=kept hb5 (by first | omega | (simp;done) | (simp;omega)) (by go_simp)
 have u1:w5.cell? ⟨P.cb,2,none⟩=some (.int .i64 m.ret.kind):=kept hb5 (by first | omega | (simp;done) | (simp;omega)) (by go_simp)
 have u2:w5.cell? ⟨P.cb,3,none⟩=some (.int .i64 m.ret.cls):=kept hb5 (by first | omega | (simp;done) | (simp;omega)) (by go_simp)
 have u3:w5.cell? ⟨w4.heap.size,0,none⟩=some (.int .i64 tk):=kept hb5 (by first | omega | (simp;done) | (simp;omega)) (by go_simp)
 have u4:w5.cell? ⟨w4.heap.size,1,none⟩=some (.int .i64 tn):=kept hb5 (by first | omega | (simp;done) | (simp;omega)) (by go_simp)
 have u5:w5.cell? ⟨w.heap.size,0,none⟩=some (.int .i64 0):=kept hb5 (by first | omega | (simp;done) | (simp;omega)) (by go_simp)
 have u6:w5.cell? ⟨w.heap.size,1,none⟩=some (.int .i64 0):=kept hb5 (by first | omega | (simp;done) | (simp;omega)) (by go_simp)
 have uf0:w5.frozen? ⟨w.heap.size,0,none⟩=false:=frz_kept hb5 (by first | omega | (simp;done) | (simp;omega)) (by go_simp)
 have uf1:w5.frozen? ⟨w.heap.size,1,none⟩=false:=frz_kept hb5 (by first | omega | (simp;done) | (simp;omega)) (by go_simp)
 have HB5:Below w4.heap.size w4 w5:=Below.trans (by exact Rd.byB) (hb5.mono Rd.byL)
 have GC:=Lib.hid (GB.out.trans (Gr.of_below HB5))
 have S5:=Lib.hid (S4.out.below HB5)
 have hrw5:w.heap.size < w5.heap.size:=cell_lt u5
 clear t0 t1 tf0 tf1 z0 z2 z3 hb5 HB5
 go_wp2_with fail
 refine Drawn.bk hK (h:=fun hHeld=>?_)
 clear hK K
 refine Drawn.cl 11 (fun K hK=>?_)
 go_simp
 go_at_call 97
 refine (mustF _).mono ?_
 rintro e w6 ⟨rfl,rfl⟩
 go_wp2_with fail
 refine And.intro rfl ?_
 exact ⟨Pan.one _,(GC.out.lft S5.out).stop⟩
set_option maxRecDepth 100000 in
theorem dopl (S:ST E w L P m d h fr vs) (hbig:fr.stk.length≤1000) (hatb:fr.at_≤100000) (hs:h.steps < E.fuel) (hfu:E.fuel≤60000) (op a b c n:Int) (args:List Int) (hi:m.code[fr.at_]? = some ⟨op,a,b,c,n,args⟩) (FS:FiS E.f) (MS:MeS E.f m) (HO:HpOk E.f.classes E.input E.fuel (stepped h)) (hf:SfOk m h.objs.length fr) (hl:fr.stk.length≤40) (hin:E.input.length≤1000) (hI:InS E.f m ⟨op,a,b,c,n,args⟩) (q20:(op==20)=false) (q11:(op==11)=false) (q12:(op==12)=false) (q13:(op==13)=false) (q19:(op==19)=false) (q21:(op==21)=false) :
  Calls Tryz.prog 54 #[.pointer (some ⟨P.cb,0,none⟩)] w (DoR E L P m d vs fr w (oA (sstep E.f E.input m ⟨op,a,b,c,n,args⟩ fr (stepped h)))):=by
 have hop:=Lib.hid (show op≠11∧op≠12∧op≠13∧op≠19∧op≠20∧op≠21 from ⟨by simpa using q11,by simpa using q12,by simpa using q13,by simpa using q19,by simpa using q20,by simpa using q21⟩)
 have hnx:=sstep_nx (fr:=fr) (h:=stepped h) (f:=E.f) (input:=E.input) (m:=m) (i:=⟨op,a,b,c,n,args⟩) hop.out
 obtain ⟨ac,hac⟩:∃ x,Hid (sstep E.f E.input m ⟨op,a,b,c,n,args⟩ fr (stepped h)=x):=⟨_,Lib.hid rfl⟩
 rw [hac.out] at hnx ⊢
 have HS:=Lib.hid S
 have hcb:=S.cbw
 have hat:fr.at_ < m.code.length:=(List.getElem?_eq_some_iff.1 hi).1
 obtain ⟨ica,icap,hvc,i1,i2,iel⟩:=id S.M.co
 obtain ⟨ib,io,rfl,hib,hie⟩:=iel fr.at_ hat
 have hx:m.code[fr.at_]=⟨op,a,b,c,n,args⟩:=by rw [List.getElem?_eq_getElem hat] at hi;exact Option.some.inj hi
 rw [hx] at hie
 obtain ⟨x0,x1,x2,x3,x4,_,va,x5,hva⟩:=hie
 obtain ⟨aa,acap,rfl,_⟩:=hva
 simp only at x0 x1 x2 x3 x4
 have c7:=S.c7
 rw [hvc] at c7
 have c0:=S.c0
 have c11:=S.c11
 have nr:=S.fo_new (Nat.le_refl _)
 have nrO:¬ own E L w.heap.size:=fun hk=>nr (.inl hk)
 have nib:¬ fo E L P vs ib:=fun hk=>by have:=(S.fo_lo hk).1;omega
 have nibO:¬ own E L ib:=fun hk=>nib (.inl hk)
 have hibw:ib < w.heap.size:=by have:=S.base;omega
 have hati:(fr.at_:Int) < m.code.length:=by omega
 have hatd:decide ((fr.at_:Int) < m.code.length)=true:=by simpa using hati
 have hwr:IntKind.i64.wrap ((fr.at_:Int)+1)=(fr.at_:Int)+1:=by rw [Num.wrap_i64,wrap64_id (by unfold Ok;omega)]
 have HCO:=Lib.hid hvc
 clear S iel hi hx hvc i1
 go_enter Tryz.func54,Tryz.ntmps54
 go_wp2_with (go_at_call 104;refine (stepOk (HS.out.below (by exact Rd.byB)).H hs hfu).mono ?_;rintro e w2 ⟨rfl,H2,K2⟩;have S2:=(HS.out.below (w':=w.alloc (.cells #[.int .i64 0,.int .i64 0] 46)) (by exact Rd.byB)).heap K2 same_own H2;have r0:=K2.cell (c:=w.heap.size) (o:=0) (v:=.int .i64 0) (by go_simp) nrO;have r1:=K2.cell (c:=w.heap.size) (o:=1) (v:=.int .i64 0) (by go_simp) nrO;have rf0:=K2.frz (c:=w.heap.size) (o:=0) (b:=false) (by go_simp) (by simp) nrO;have rf1:=K2.frz (c:=w.heap.size) (o:=1) (b:=false) (by go_simp) (by simp) nrO;have z0:=S2.c0;have z11:=S2.c11;have z7:=S2.c7;rw [HCO.out] at z7;have u0:=K2.cell (c:=ib) (o:=io+fr.at_*6) (v:=.int .i64 (op)) (by go_simp) nibO;have u1:=K2.cell (c:=ib) (o:=io+fr.at_*6+1) (v:=.int .i64 a) (by go_simp) nibO;have u2:=K2.cell (c:=ib) (o:=io+fr.at_*6+2) (v:=.int .i64 b) (by go_simp) nibO;have u3:=K2.cell (c:=ib) (o:=io+fr.at_*6+3) (v:=.int .i64 c) (by go_simp) nibO;have u4:=K2.cell (c:=ib) (o:=io+fr.at_*6+4) (v:=.int .i64 n) (by go_simp) nibO;have u5:=K2.cell (c:=ib) (o:=io+fr.at_*6+5) (v:=.slice aa args.length acap) (by go_simp) nibO;have GW:=Lib.hid (show Gr E L P vs w L vs w2 from ⟨(Kp.of_below (B:=w.heap.size) (X:=fo E L P vs) (w':=w.alloc (.cells #[.int .i64 0,.int .i64 0] 46)) (by exact Rd.byB) (Nat.le_refl _)).trans K2 (fun y hy=>.inl (.inl hy)),fun _ q=>.inl q,fun _ q=>.inl q⟩);have nf2:=S2.fo_new (Nat.le_refl _);have hcb2:=S2.cbw;have hrw:=cell_lt r0;have hib2:=cell_lt u0;replace S2:=Lib.hid S2;clear H2 K2 c7 c0 c11 x0 x1 x2 x3 x4 x5)
 refine Drawn.hd (fun w'=>w'.cell? ⟨P.cb,11,none⟩=some (.int .i64 fr.at_)∧w'.cell? ⟨P.cb,7,none⟩=some (.slice (some ⟨ib,io,none⟩) m.code.length icap)) (h:=fun hHeld=>?_)
 refine Drawn.T 0 (some 12) (h:=?_)
 refine Drawn.T 1 (some 13) (h:=?_)
 refine Drawn.T 2 (some 14) (h:=?_)
 refine Drawn.T 3 (some 15) (h:=?_)
 refine Drawn.T 4 (some 16) (h:=?_)
 refine Drawn.T 5 (some 17) (h:=?_)
 refine Drawn.T 6 (some 18) (h:=?_)
 refine Drawn.T 7 (some 19) (h:=?_)
 refine Drawn.T 8 (some 20) (h:=?_)
 refine Drawn.T 9 (some 21) (h:=?_)
 refine Drawn.T 10 (some 22) (h:=?_)
 refine Drawn.cl 11 (fun K hK=>?_)
 go_simp
 refine (mustT _).mono ?_
 rintro e w3 ⟨rfl,rfl⟩
 go_wp2_with fail
 refine Drawn.bk hK (h:=fun hHeld=>?_)
 clear hK K
 refine wpAnyH_done (by kernel_rfl) ?_ _
 go_wp2_with fail
 refine Drawn.hd (fun w'=>w'.cell? ⟨P.cb,11,none⟩=some (.int .i64 fr.at_)∧w'.cell? ⟨P.cb,7,none⟩=some (.slice (some ⟨ib,io,none⟩) m.code.length icap)∧w'.cell? ⟨ib,io+fr.at_*6,none⟩=some (.int .i64 op)∧w'.cell? ⟨ib,io+fr.at_*6+1,none⟩=some (.int .i64 a)∧w'.cell? ⟨ib,io+fr.at_*6+2,none⟩=some (.int .i64 b)∧w'.cell? ⟨ib,io+fr.at_*6+3,none⟩=some (.int .i64 c)∧w'.cell? ⟨ib,io+fr.at_*6+4,none⟩=some (.int .i64 n)∧w'.cell? ⟨ib,io+fr.at_*6+5,none⟩=some (.slice aa args.length acap)) (h:=fun hHeld=>?_)
 refine Drawn.T 0 (some 24) (h:=?_)
 refine Drawn.T 1 (some 25) (h:=?_)
 refine Drawn.T 2 (some 26) (h:=?_)
 refine Drawn.T 3 (some 27) (h:=?_)
 refine Drawn.T 4 (some 28) (h:=?_)
 refine Drawn.T 5 (some 29) (h:=?_)
 refine Drawn.T 6 (some 30) (h:=?_)
 refine Drawn.T 7 (some 31) (h:=?_)
 refine Drawn.T 8 (some 32) (h:=?_)
 refine Drawn.T 9 (some 33) (h:=?_)
 refine Drawn.T 10 (some 34) (h:=?_)
 refine Drawn.cl 11 (fun K hK=>?_)
 go_simp
 refine Drawn.bk hK (h:=fun hHeld=>?_)
 clear hK K
 refine Drawn.cl 12 (fun K hK=>?_)
 go_simp
 refine Drawn.bk hK (h:=fun hHeld=>?_)
 clear hK K
 refine wpAnyH_done (by kernel_rfl) ?_ _
 generalize hWW:World.drew _=W
 replace hWW:=Lib.hid hWW
 have k0:W.cell? ⟨w2.heap.size,0,none⟩=some (.int .i64 (op)):=by rw [← hWW.out];go_simp
 have k1:W.cell? ⟨w2.heap.size,1,none⟩=some (.int .i64 a):=by rw [← hWW.out];go_simp
 have k2:W.cell? ⟨w2.heap.size,2,none⟩=some (.int .i64 b):=by rw [← hWW.out];go_simp
 have k3:W.cell? ⟨w2.heap.size,3,none⟩=some (.int .i64 c):=by rw [← hWW.out];go_simp
 have k4:W.cell? ⟨w2.heap.size,4,none⟩=some (.int .i64 n):=by rw [← hWW.out];go_simp
 have k5:W.cell? ⟨w2.heap.size,5,none⟩=some (.slice aa args.length acap):=by rw [← hWW.out];go_simp
 have hbW:Below w2.heap.size w2 W:=by rw [← hWW.out];exact Rd.byB
 have hzW:w2.heap.size < W.heap.size:=cell_lt k0
 have SW:=S2.out.below hbW
 have s0:=kept hbW hrw r0
 have s1:=kept hbW hrw r1
 have sf0:=frz_kept hbW hrw rf0
 have sf1:=frz_kept hbW hrw rf1
 have e0:=SW.c0
 have e11:=SW.c11
 have ef11:=SW.fz 11 (by decide)
 have hcbW:=SW.cbw
 have hrW:w.heap.size < W.heap.size:=by omega
 have G:=Lib.hid (GW.out.trans (Gr.of_below hbW))
 replace SW:=Lib.hid SW
 clear hWW r0 r1 rf0 rf1 z0 z11 z7 u0 u1 u2 u3 u4 u5 GW hbW S2
 go_wp2_with fail
 go_at_call 110
 refine (plain FS MS (SW.out.below (by exact Rd.byB)) HO hf hl hfu hin ⟨op,a,b,c,n,args⟩ hI hop.out _ _ _).mono ?_
 rw [hac.out]
 rintro e w4 R
 cases ac with
 | go fr' h' =>
  obtain ⟨l',s',a'⟩:=fr'
  have ha':a'=fr.at_+1:=hnx
  subst ha'
  obtain ⟨rfl,A⟩:=R
  obtain ⟨L4,v4,G4,S4⟩:=(LftF.before (w:=W) (by exact Rd.byB) A).opn
  have t0:=G4.cell (b:=w.heap.size) (o:=0) (v:=.int .i64 0) nr (by go_simp)
  have t1:=G4.cell (b:=w.heap.size) (o:=1) (v:=.int .i64 0) nr (by go_simp)
  have tf0:=G4.frz (b:=w.heap.size) (o:=0) (x:=false) nr (by first | omega | (simp;done) | (simp;omega)) (by go_simp)
  have tf1:=G4.frz (b:=w.heap.size) (o:=1) (x:=false) nr (by first | omega | (simp;done) | (simp;omega)) (by go_simp)
  have nr4:=G4.nf (by first | omega | (simp;done) | (simp;omega)) nr
  have GB:=Lib.hid (G.out.trans G4)
  have hrw4:=cell_lt t0
  replace S4:=Lib.hid S4
  clear A G4 s0 s1 sf0 sf1 k0 k1 k2 k3 k4 k5 e0 e11 ef11
  have e11':=S4.out.c11
  have ef11':=S4.out.fz 11 (by decide)
  have hcb':=S4.out.cbw
  go_wp2_with fail
  refine bodyPost_ret (v:=.tuple #[.agg #[.int .i64 0,.int .i64 0],.bool false]) (by simp [results,Tryz.results54,go_sem] <;> go_simp) rfl ?_
  obtain ⟨L8,v8,G8,S8⟩:=(S4.out.setAt (fr.at_+1)).opn
  exact ⟨rfl,Gr.upon HS.out (GB.out.trans G8) S8 (Nat.le_refl _) (G8.nf hrw4 nr4) _ _⟩
 | back v h'=>exact hnx.elim
 | call k x y z=>exact hnx.elim
 | thrown o h' =>
  obtain ⟨⟨older,hol,rfl⟩,st,A⟩:=R
  refine And.intro rfl ?_
  exact ⟨⟨older,hol,rfl⟩,st,G.out.comp (LftF.before (w:=W) (by exact Rd.byB) A)⟩
 | stop c2 h' =>
  obtain ⟨⟨older,hol,rfl⟩,A⟩:=R
  refine And.intro rfl ?_
  refine ⟨⟨older,hol,rfl⟩,G.out.compS ?_⟩
  obtain ⟨L5,K5,N5,H5⟩:=A
  exact ⟨L5,(Kp.of_below (B:=W.heap.size) (by exact Rd.byB) (Nat.le_refl _)).trans K5 (fun y hy=>.inl hy),fun k hk=>(N5 k hk).imp id (fun q=>Nat.le_trans (Below.size (B:=W.heap.size) (by exact Rd.byB)) q),H5⟩
end
end Hpw
namespace Hpw
open Num Rd D Run Mem HierW
section
variable {E:Ev}{w w' w1 w2:World}{L L' L1:Lay}{h h' h1 h2:Hp}{d:Nat}{P:PS}{m:Me}{fr fr' fr1:Sf}{vs vs1:Value}
set_option maxRecDepth 100000 in
theorem doFuel (S:ST E w L P m d h fr vs) (hfu:E.fuel≤60000) (hs:E.fuel≤h.steps) :
  Calls Tryz.prog 54 #[.pointer (some ⟨P.cb,0,none⟩)] w (DoR E L P m d vs fr w (.stop 0 h)):=by
 have HS:=Lib.hid S
 have hcb:=S.cbw
 have c0:=S.c0
 clear S
 go_enter Tryz.func54,Tryz.ntmps54
 go_wp2_with fail
 go_at_call 104
 refine (stepFull (HS.out.below (by exact Rd.byB)).H hs).mono ?_
 rintro e w2 ⟨rfl,hb2⟩
 have HB2:Below w.heap.size w w2:=Below.trans (by exact Rd.byB) (hb2.mono Rd.byL)
 unfold pan
 refine And.intro rfl ?_
 exact ⟨Pan.one _,((Gr.of_below HB2).lft (HS.out.below HB2)).stop⟩
set_option maxRecDepth 100000 in
theorem doEnd (S:ST E w L P m d h fr vs) (hfu:E.fuel≤60000) (hs:h.steps < E.fuel) (hi:m.code[fr.at_]? = none) :
  Calls Tryz.prog 54 #[.pointer (some ⟨P.cb,0,none⟩)] w (DoR E L P m d vs fr w (.stop 6 (stepped h))):=by
 have HS:=Lib.hid S
 have hcb:=S.cbw
 have hat:m.code.length≤fr.at_:=List.getElem?_eq_none_iff.1 hi
 obtain ⟨ica,icap,hvc,i1,i2,iel⟩:=id S.M.co
 have c7:=S.c7
 rw [hvc] at c7
 have c0:=S.c0
 have c11:=S.c11
 have nr:=S.fo_new (Nat.le_refl _)
 have nrO:¬ own E L w.heap.size:=fun hk=>nr (.inl hk)
 have hatd:decide ((fr.at_:Int) < m.code.length)=false:=by simpa using hat
 have HCO:=Lib.hid hvc
 clear S iel hi hvc i1 i2
 go_enter Tryz.func54,Tryz.ntmps54
 go_wp2_with (go_at_call 104;refine (stepOk (HS.out.below (by exact Rd.byB)).H hs hfu).mono ?_;rintro e w2 ⟨rfl,H2,K2⟩;have S2:=(HS.out.below (w':=w.alloc (.cells #[.int .i64 0,.int .i64 0] 46)) (by exact Rd.byB)).heap K2 same_own H2;have r0:=K2.cell (c:=w.heap.size) (o:=0) (v:=.int .i64 0) (by go_simp) nrO;have r1:=K2.cell (c:=w.heap.size) (o:=1) (v:=.int .i64 0) (by go_simp) nrO;have rf0:=K2.frz (c:=w.heap.size) (o:=0) (b:=false) (by go_simp) (by simp) nrO;have rf1:=K2.frz (c:=w.heap.size) (o:=1) (b:=false) (by go_simp) (by simp) nrO;have z0:=S2.c0;have z11:=S2.c11;have z7:=S2.c7;rw [HCO.out] at z7;have GW:=Lib.hid (show Gr E L P vs w L vs w2 from ⟨(Kp.of_below (B:=w.heap.size) (X:=fo E L P vs) (w':=w.alloc (.cells #[.int .i64 0,.int .i64 0] 46)) (by exact Rd.byB) (Nat.le_refl _)).trans K2 (fun y hy=>.inl (.inl hy)),fun _ q=>.inl q,fun _ q=>.inl q⟩);have nf2:=S2.fo_new (Nat.le_refl _);have hcb2:=S2.cbw;have hrw:=cell_lt r0;replace S2:=Lib.hid S2;clear H2 K2 c7 c0 c11)
 refine Drawn.hd (fun w'=>w'.cell? ⟨P.cb,11,none⟩=some (.int .i64 fr.at_)∧w'.cell? ⟨P.cb,7,none⟩=some (.slice ica m.code.length icap)) (h:=fun hHeld=>?_)
 refine Drawn.T 0 (some 12) (h:=?_)
 refine Drawn.T 1 (some 13) (h:=?_)
 refine Drawn.T 2 (some 14) (h:=?_)
 refine Drawn.T 3 (some 15) (h:=?_)
 refine Drawn.T 4 (some 16) (h:=?_)
 refine Drawn.T 5 (some 17) (h:=?_)
 refine Drawn.T 6 (some 18) (h:=?_)
 refine Drawn.T 7 (some 19) (h:=?_)
 refine Drawn.T 8 (some 20) (h:=?_)
 refine Drawn.T 9 (some 21) (h:=?_)
 refine Drawn.T 10 (some 22) (h:=?_)
 refine Drawn.cl 11 (fun K hK=>?_)
 go_simp
 have hati:¬ (fr.at_:Int) < m.code.length:=by omega
 have hatn:¬ fr.at_ < m.code.length:=by omega
 try simp only [hati,hatn,decide_false]
 refine (mustF _).mono ?_
 rintro e w3 ⟨rfl,rfl⟩
 go_wp2_with fail
 refine And.intro rfl ?_
 exact ⟨Pan.one _,((GW.out.trans (Gr.of_below (by exact Rd.byB))).lft (S2.out.below (by exact Rd.byB))).stop⟩
end
end Hpw
namespace Hpw
open Num Rd D Run Mem HierW
def InvOk (E:Ev) (d g:Nat) (h:Hp):Prop:=∀ (k:Nat) (args:List Vl) (h1:Hp),k < E.f.methods.length→HpOk E.f.classes E.input E.fuel h1→h1.steps=h.steps→(∀ v∈args,VtOk h1.objs.length v)→args.length=(meAt E.f k).params.length →
 ∀ (L:Lay) (W:World) (mv va:Value) (X:Nat→Prop),PH E W L h1 d→VMe W E.B mv (meAt E.f k)→VS W X va args→(∀ j,own E L j→X j)→Calls Tryz.prog 24 #[.pointer (some ⟨E.hb,0,none⟩),mv,va] W (InvR E L d W (call SM E.f E.input E.fuel g d (meAt E.f k) args h1))
section
variable {E:Ev}{w w' w1 w2:World}{L L' L1:Lay}{h h' h1 h2:Hp}{d:Nat}{P:PS}{m m2:Me}{fr fr' fr1:Sf}{vs vs1:Value}
theorem callA_ok0 {v:Vl}(hk:m2.ret.kind=0):oA (callA m m2 fr (.ok v h))=.go ⟨fr.loc,fr.stk,fr.at_+1⟩ h:=by
 simp [callA,sresume,hk,oA,on]
theorem callA_ok1 {v:Vl}(hk:m2.ret.kind≠0):oA (callA m m2 fr (.ok v h))=oA (push m fr fr.stk v h):=by
 simp only [callA,sresume,if_neg hk,push]
 split <;> rename_i q
 ·split at q
  ·cases q
  ·rename_i q2;rw [if_neg q2]
 ·split at q
  ·rename_i q2;rw [if_pos q2];cases q;rfl
  ·cases q
theorem rowStep (l:List Vl) (k q:Nat) (hq:q < l.length):(List.replicate (k+1) Vl.nil++l.drop (q+1)).set k (l.getD q Vl.nil)=List.replicate k Vl.nil++l.drop q:=by
 rw [List.set_append_left _ _ (by simp),List.replicate_succ',List.set_append_right _ _ (by simp)]
 simp only [List.length_replicate,Nat.sub_self,List.set_cons_zero,List.append_assoc]
 rw [List.drop_eq_getElem_cons hq]
 simp [List.getD_eq_getElem?_getD,hq]
theorem top_take (l:List Vl) (q:Nat) (hq:q < l.length):l.take (q+1)≠[]∧top (l.take (q+1))=l.getD q Vl.nil∧(l.take (q+1)).dropLast=l.take q:=by
 have e:l.take (q+1)=l.take q++[l.getD q Vl.nil]:=by
  rw [List.take_add_one,List.getD_eq_getElem?_getD,List.getElem?_eq_getElem hq];rfl
 refine ⟨by rw [e];simp,?_,by rw [e,List.dropLast_concat]⟩
 rw [e];unfold top;simp
def CalRel (E:Ev) (L:Lay) (P:PS) (m:Me) (d:Nat) (h:Hp) (fr:Sf) (vs:Value) (w:World) (N k:Nat) (mv:List Value) (wr:World):Prop :=
 ∃ L1 vs1,Gr E L P vs w L1 vs1 wr∧ST E wr L1 P m d h ⟨fr.loc,fr.stk.take (fr.stk.length+k - N),fr.at_⟩ vs1∧Blk wr w.heap.size mv∧Blk wr (w.heap.size+1) (vcells (List.replicate k Vl.nil++fr.stk.drop (fr.stk.length+k - N)))∧¬ fo E L1 P vs1 w.heap.size∧¬ fo E L1 P vs1 (w.heap.size+1)∧w.heap.size+1 < wr.heap.size
end
end Hpw
namespace Hpw
open Num Rd D Run Mem HierW
section
variable {E:Ev}{w w' w1 w2:World}{L L' L1:Lay}{h h' h1 h2:Hp}{d:Nat}{P:PS}{m m2:Me}{fr fr' fr1:Sf}{vs vs1:Value}
theorem Gr.over (G:Gr E L P vs w L1 vs1 w1){b:Nat}(h1:w.heap.size≤b) (i j:Nat) (x y:Value):Gr E L P vs w L1 vs1 ((w1.setCell ⟨b,i,none⟩ x).setCell ⟨b,j,none⟩ y):=⟨(G.kp.setCell (p:=⟨b,i,none⟩) (.inr h1) x).setCell (p:=⟨b,j,none⟩) (.inr h1) y,G.ow,G.st⟩
set_option maxRecDepth 100000 in
theorem calledP (S:ST E w L P m d h fr vs) (HO:HpOk E.f.classes E.input E.fuel h) (hf:SfOk m h.objs.length fr) (hl:fr.stk.length≤40) (k:Nat) (hk:k < E.f.methods.length) (hm2:meAt E.f k=m2) (h4:m2.params.length≤4) (g:Nat) (HI:InvOk E d g h) (hmany:E.f.methods.length≤8) :
  Calls Tryz.prog 108 #[.pointer (some ⟨P.cb,0,none⟩),.int .i64 (k:Int)] w (PlR E L P m d vs fr (.tuple #[]) w (if fr.stk.length < m2.params.length then .stop 6 h else oA (callA m m2 ⟨fr.loc,fr.stk.take (fr.stk.length - m2.params.length),fr.at_⟩ (call SM E.f E.input E.fuel g d m2 (fr.stk.drop (fr.stk.length - m2.params.length)) h)))):=by
 obtain ⟨act,hact⟩:∃ act,Hid ((if fr.stk.length < m2.params.length then .stop 6 h else oA (callA m m2 ⟨fr.loc,fr.stk.take (fr.stk.length - m2.params.length),fr.at_⟩ (call SM E.f E.input E.fuel g d m2 (fr.stk.drop (fr.stk.length - m2.params.length)) h)))=act):=⟨_,Lib.hid rfl⟩
 rw [hact.out]
 have HS:=Lib.hid S
 have HIV:=Lib.hid HI
 have hcb:=S.cbw
 have hB:=S.base
 have nf:=S.fo_new (Nat.le_refl _)
 have c0:=S.c0
 have c1:=S.H.c1
 have hhb:=S.H.hbw
 obtain ⟨ma,mcap,hvm,q1,q2,mel⟩:=S.H.mes
 obtain ⟨mb,mo,rfl,hmb,hme⟩:=mel k hk
 have em:E.f.methods[k]=m2:=by rw [← hm2];unfold meAt;rw [List.getD_eq_getElem?_getD,List.getElem?_eq_getElem hk];rfl
 rw [em] at hme
 obtain ⟨vp,vc,vh,x0,x1,x2,x3,x4,x5,x6,x7,oks,sps,sco,shs⟩:=hme
 have hVM:VMe w E.B (.agg #[vp,.int .i64 m2.ret.kind,.int .i64 m2.ret.cls,.int .i64 m2.stack,.int .i64 m2.locals,.int .i64 m2.regs,vc,vh]) m2:=⟨vp,vc,vh,rfl,oks,sps,sco,shs⟩
 obtain ⟨pa,pcap,rfl,p1,p2,pel⟩:=id sps
 obtain ⟨ca,ccap,rfl,p3,p4,pel2⟩:=id sco
 obtain ⟨ha,hcap,rfl,p5,p6,pel3⟩:=id shs
 rw [hvm] at c1
 have hbm:=Nat.lt_of_lt_of_le hmb hB
 have hkl:(k:Int) < E.f.methods.length:=by omega
 have HVM:=Lib.hid hVM
 obtain ⟨w2,hrun,hblk,hbel,hlt⟩:=mkValsP m2.params.length (by omega) (w.alloc (.cells #[.slice pa m2.params.length pcap,.int .i64 m2.ret.kind,.int .i64 m2.ret.cls,.int .i64 m2.stack,.int .i64 m2.locals,.int .i64 m2.regs,.slice ca m2.code.length ccap,.slice ha m2.handlers.length hcap] 54))
 have hs:(w.alloc (.cells #[.slice pa m2.params.length pcap,.int .i64 m2.ret.kind,.int .i64 m2.ret.cls,.int .i64 m2.stack,.int .i64 m2.locals,.int .i64 m2.regs,.slice ca m2.code.length ccap,.slice ha m2.handlers.length hcap] 54)).heap.size=w.heap.size+1:=by simp
 rw [hs] at hblk hlt hrun hbel
 have hbk0:Blk w2 w.heap.size [.slice pa m2.params.length pcap,.int .i64 m2.ret.kind,.int .i64 m2.ret.cls,.int .i64 m2.stack,.int .i64 m2.locals,.int .i64 m2.regs,.slice ca m2.code.length ccap,.slice ha m2.handlers.length hcap]:=(Blk.made w [.slice pa m2.params.length pcap,.int .i64 m2.ret.kind,.int .i64 m2.ret.cls,.int .i64 m2.stack,.int .i64 m2.locals,.int .i64 m2.regs,.slice ca m2.code.length ccap,.slice ha m2.handlers.length hcap] 54).next (Kp.of_below (X:=fun _=>False) hbel (Nat.le_of_eq hs)) (fun e=>e)
 have hb2:Below w.heap.size w w2:=Below.trans (by exact Rd.byB) (hbel.mono (by omega))
 have CR0:Hid (CalRel E L P m d h fr vs w m2.params.length m2.params.length [.slice pa m2.params.length pcap,.int .i64 m2.ret.kind,.int .i64 m2.ret.cls,.int .i64 m2.stack,.int .i64 m2.locals,.int .i64 m2.regs,.slice ca m2.code.length ccap,.slice ha m2.handlers.length hcap] w2):=by
  refine ⟨L,vs,Gr.of_below hb2,?_,hbk0,?_,nf,S.fo_new (Nat.le_succ _),hlt⟩
  ·rw [Nat.add_sub_cancel,List.take_length];exact S.below hb2
  ·rw [Nat.add_sub_cancel,List.drop_length,List.append_nil];exact hblk
 have hwr:IntKind.i64.wrap ((m2.params.length:Int) - 1)=(m2.params.length:Int) - 1:=by rw [Num.wrap_i64,wrap64_id (by unfold Ok;omega)]
 clear S HI q1 q2 mel em oks sps sco shs hVM p1 p2 pel p3 p4 pel2 p5 p6 pel3 hblk hbel hbk0 hs
 go_enter Tryz.func108,Tryz.ntmps108
 go_wp2_with fail
 go_loopw [6] (fun i wr=>∃ k':Nat,i=.int .i64 ((k':Int) - 1)∧k'≤m2.params.length∧m2.params.length≤fr.stk.length+k'∧CalRel E L P m d h fr vs w m2.params.length k' [.slice pa m2.params.length pcap,.int .i64 m2.ret.kind,.int .i64 m2.ret.cls,.int .i64 m2.stack,.int .i64 m2.locals,.int .i64 m2.regs,.slice ca m2.code.length ccap,.slice ha m2.handlers.length hcap] wr) (fun i _=>(intOf i+1).toNat)
 case atStart=>exact ⟨m2.params.length,by first | rfl | go_num,Nat.le_refl _,by omega,CR0.out⟩
 case round =>
  obtain ⟨k',rfl,hkn,hkl2,L1,v1,G1,S1,B0,B1,nf0,nf1,hsz⟩:=hrel
  have BB0:=Lib.hid B0
  have BB1:=Lib.hid B1
  have GG1:=Lib.hid G1
  clear CR0 B0 B1 G1 hwr c0 c1 x0 x1 x2 x3 x4 x5 x6 x7
  have z0:=S1.c0
  have hcb1:=S1.cbw
  cases k' with
  | zero =>
   have ek:(((0:Nat):Int) - 1) = -1:=rfl
   rw [ek]
   obtain ⟨q,hq⟩:∃ q,Hid (fr.stk.length - m2.params.length=q):=⟨_,Lib.hid rfl⟩
   have hq':fr.stk.length - m2.params.length=q:=hq.out
   have hq0:fr.stk.length+0 - m2.params.length=q:=hq'
   have hbb:=BB1.out
   rw [hq0] at S1 hbb
   rw [List.replicate_zero,List.nil_append] at hbb
   have hlen:(fr.stk.drop q).length=m2.params.length:=by rw [List.length_drop];omega
   have hV:=VS.of_blk (X:=Hpw.fo E L1 P v1) (cap:=m2.params.length) hbb nf1 (by omega) (by omega)
   rw [hlen] at hV
   have HIK:=HIV.out k (fr.stk.drop q) h hk HO rfl (fun v hv=>hf.stk v (List.mem_of_mem_drop hv)) (by rw [hm2];exact hlen)
   rw [hm2] at HIK
   obtain ⟨r,hr⟩:∃ r,Hid (call SM E.f E.input E.fuel g d m2 (fr.stk.drop q) h=r):=⟨_,Lib.hid rfl⟩
   rw [hr.out] at HIK
   have EA:Hid (act=oA (callA m m2 ⟨fr.loc,fr.stk.take q,fr.at_⟩ r)):=by
    show _=_
    rw [← hact.out,if_neg (by omega),hq',hr.out]
   have hEB1:=S1.base
   have hsz0:w.heap.size < wr.heap.size:=by omega
   have hbw1:=HS.out.bel GG1.out.kp
   have HK:=Lib.hid HIK
   have HV:=Lib.hid hV
   have HBW:=Lib.hid hbw1
   have b0:=(BB0.out 0 (by simp)).1
   have b1:=(BB0.out 1 (by simp)).1
   have b2:=(BB0.out 2 (by simp)).1
   have b3:=(BB0.out 3 (by simp)).1
   have b4:=(BB0.out 4 (by simp)).1
   have b5:=(BB0.out 5 (by simp)).1
   have b6:=(BB0.out 6 (by simp)).1
   have b7:=(BB0.out 7 (by simp)).1
   simp only [List.getElem_cons_zero,List.getElem_cons_succ] at b0
   simp only [List.getElem_cons_zero,List.getElem_cons_succ] at b1
   simp only [List.getElem_cons_zero,List.getElem_cons_succ] at b2
   simp only [List.getElem_cons_zero,List.getElem_cons_succ] at b3
   simp only [List.getElem_cons_zero,List.getElem_cons_succ] at b4
   simp only [List.getElem_cons_zero,List.getElem_cons_succ] at b5
   simp only [List.getElem_cons_zero,List.getElem_cons_succ] at b6
   simp only [List.getElem_cons_zero,List.getElem_cons_succ] at b7
   have nf7:=S1.fo_new (Nat.le_refl _)
   replace S1:=Lib.hid S1
   clear HIK hV hbw1 hq hq' hq0 hbb hlen BB1 HIV
   go_wp2_with fail
   refine Drawn.hd (fun w'=>w'.cell? ⟨P.cb,0,none⟩=some (.pointer (some ⟨E.hb,0,none⟩))∧w'.cell? ⟨w.heap.size,0,none⟩=some (.slice pa m2.params.length pcap)∧w'.cell? ⟨w.heap.size,1,none⟩=some (.int .i64 m2.ret.kind)∧w'.cell? ⟨w.heap.size,2,none⟩=some (.int .i64 m2.ret.cls)∧w'.cell? ⟨w.heap.size,3,none⟩=some (.int .i64 m2.stack)∧w'.cell? ⟨w.heap.size,4,none⟩=some (.int .i64 m2.locals)∧w'.cell? ⟨w.heap.size,5,none⟩=some (.int .i64 m2.regs)∧w'.cell? ⟨w.heap.size,6,none⟩=some (.slice ca m2.code.length ccap)∧w'.cell? ⟨w.heap.size,7,none⟩=some (.slice ha m2.handlers.length hcap)) (h:=fun hHeld=>?_)
   refine Drawn.T 0 (some 35) (h:=?_)
   refine Drawn.T 1 (some 36) (h:=?_)
   refine Drawn.T 2 (some 37) (h:=?_)
   refine Drawn.T 3 (some 38) (h:=?_)
   refine Drawn.T 4 (some 39) (h:=?_)
   refine Drawn.T 5 (some 40) (h:=?_)
   refine wpAnyH_ready (rs:=[6,7]) (by kernel_rfl) (by simp) ?_
   refine AllReadyH.cons rfl (fun K hK=>?_) (AllReadyH.cons rfl (fun K hK=>?_) AllReadyH.nil)
   ·go_simp
    go_at_call 24
    refine (HK.out L1 _ _ _ (Hpw.fo E L1 P v1) (S1.out.below (by exact Rd.byB)).H (HVM.out.mono (HBW.out.trans (Below.mono (B:=wr.heap.size) (by exact Rd.byB) hEB1)) (Nat.le_refl _)) (HV.out.next (Kp.of_below (B:=wr.heap.size) (X:=fun _=>False) (by exact Rd.byB) (Nat.le_refl _)) (fun _ _ e=>e.elim) (fun _ _ e=>e)) (fun _ e=>.inl e)).mono ?_
    rintro e w5 R
    cases r with
    | thrown o h2 =>
     obtain ⟨⟨older,hol,rfl⟩,A⟩:=R
     obtain ⟨L5,G5,S5⟩:=Gr.of_heap A (S1.out.below (by exact Rd.byB))
     refine And.intro rfl ?_
     rw [EA.out]
     exact ⟨⟨older,hol,rfl⟩,_,((GG1.out.trans (Gr.of_below (by exact Rd.byB))).trans G5).lft S5⟩
    | stop c2 h2 =>
     obtain ⟨⟨older,hol,rfl⟩,A⟩:=R
     obtain ⟨L5,G5,S5⟩:=Gr.of_heap A (S1.out.below (by exact Rd.byB))
     refine And.intro rfl ?_
     rw [EA.out]
     exact ⟨⟨older,hol,rfl⟩,(((GG1.out.trans (Gr.of_below (by exact Rd.byB))).trans G5).lft S5).stop⟩
    | ok v h2 =>
     obtain ⟨vk,vn⟩:=v
     obtain ⟨rfl,A⟩:=R
     obtain ⟨L5,G5,S5⟩:=Gr.of_heap A (S1.out.below (by exact Rd.byB))
     have y9:=S5.c0
     have y0:=G5.cell (b:=w.heap.size) (o:=0) (v:=.slice pa m2.params.length pcap) nf0 (by go_simp)
     have y1:=G5.cell (b:=w.heap.size) (o:=1) (v:=.int .i64 m2.ret.kind) nf0 (by go_simp)
     have y2:=G5.cell (b:=w.heap.size) (o:=2) (v:=.int .i64 m2.ret.cls) nf0 (by go_simp)
     have y3:=G5.cell (b:=w.heap.size) (o:=3) (v:=.int .i64 m2.stack) nf0 (by go_simp)
     have y4:=G5.cell (b:=w.heap.size) (o:=4) (v:=.int .i64 m2.locals) nf0 (by go_simp)
     have y5:=G5.cell (b:=w.heap.size) (o:=5) (v:=.int .i64 m2.regs) nf0 (by go_simp)
     have y6:=G5.cell (b:=w.heap.size) (o:=6) (v:=.slice ca m2.code.length ccap) nf0 (by go_simp)
     have y7:=G5.cell (b:=w.heap.size) (o:=7) (v:=.slice ha m2.handlers.length hcap) nf0 (by go_simp)
     have GC:=Lib.hid ((GG1.out.trans (Gr.of_below (by exact Rd.byB))).trans G5)
     have hcb5:=S5.cbw
     have lt5:=cell_lt y0
     have hB5:=S5.base
     replace S5:=Lib.hid S5
     clear A G5 b0 b1 b2 b3 b4 b5 b6 b7 z0
     unfold vl
     go_wp2_with fail
     refine Drawn.bk hK (h:=fun hHeld=>?_)
     clear hK K
     refine Drawn.cl 7 (fun K hK=>?_)
     go_simp
     refine Drawn.bk hK (h:=fun hHeld=>?_)
     clear hK K
     refine Drawn.cl 8 (fun K hK=>?_)
     go_simp
     refine Drawn.bk hK (h:=fun hHeld=>?_)
     clear hK K
     refine wpAnyH_done (by kernel_rfl) ?_ _
     generalize hWW:World.alloc w5 _=W
     replace hWW:=Lib.hid hWW
     have u1:W.cell? ⟨w.heap.size,1,none⟩=some (.int .i64 m2.ret.kind):=by rw [← hWW.out];go_simp
     have t0:W.cell? ⟨w5.heap.size,0,none⟩=some (.int .i64 vk):=by rw [← hWW.out];go_simp
     have t1:W.cell? ⟨w5.heap.size,1,none⟩=some (.int .i64 vn):=by rw [← hWW.out];go_simp
     have GD:=Lib.hid (Gr.trans GC.out (Gr.of_below (w1:=W) (by rw [← hWW.out];exact Rd.byB)))
     have SD:=Lib.hid (ST.below (w':=W) S5.out (by rw [← hWW.out];exact Rd.byB))
     clear hWW y0 y1 y2 y3 y4 y5 y6 y7 y9
     by_cases hrk:m2.ret.kind=0
     ·have hrb:(m2.ret.kind==0)=true:=by simpa using hrk
      go_wp2_with fail
      go_end0
      rw [EA.out,callA_ok0 hrk]
      exact ⟨rfl,GD.out.lft SD.out⟩
     ·have hrb:(m2.ret.kind==0)=false:=by simpa using hrk
      go_wp2_with fail
      go_at_call 111
      refine (put SD.out ⟨vk,vn⟩ (by simp only [List.length_take];omega)).mono ?_
      rintro e w9 (⟨q9,rfl,A⟩ | ⟨q9,rfl,A⟩)
      ·go_wp2
       go_end0
       rw [EA.out,callA_ok1 hrk]
       exact plr_yes (fr:=fr) q9 A GD.out
      ·unfold pan
       refine And.intro rfl ?_
       rw [EA.out,callA_ok1 hrk]
       exact plr_no (fr:=fr) q9 A GD.out
   ·go_simp
    refine Drawn.bk hK (h:=fun hHeld=>?_)
    clear hK K
    refine Drawn.cl 6 (fun K hK=>?_)
    go_simp
    go_at_call 24
    refine (HK.out L1 _ _ _ (Hpw.fo E L1 P v1) (S1.out.below (by exact Rd.byB)).H (HVM.out.mono (HBW.out.trans (Below.mono (B:=wr.heap.size) (by exact Rd.byB) hEB1)) (Nat.le_refl _)) (HV.out.next (Kp.of_below (B:=wr.heap.size) (X:=fun _=>False) (by exact Rd.byB) (Nat.le_refl _)) (fun _ _ e=>e.elim) (fun _ _ e=>e)) (fun _ e=>.inl e)).mono ?_
    rintro e w5 R
    cases r with
    | thrown o h2 =>
     obtain ⟨⟨older,hol,rfl⟩,A⟩:=R
     obtain ⟨L5,G5,S5⟩:=Gr.of_heap A (S1.out.below (by exact Rd.byB))
     refine And.intro rfl ?_
     rw [EA.out]
     exact ⟨⟨older,hol,rfl⟩,_,((GG1.out.trans (Gr.of_below (by exact Rd.byB))).trans G5).lft S5⟩
    | stop c2 h2 =>
     obtain ⟨⟨older,hol,rfl⟩,A⟩:=R
     obtain ⟨L5,G5,S5⟩:=Gr.of_heap A (S1.out.below (by exact Rd.byB))
     refine And.intro rfl ?_
     rw [EA.out]
     exact ⟨⟨older,hol,rfl⟩,(((GG1.out.trans (Gr.of_below (by exact Rd.byB))).trans G5).lft S5).stop⟩
    | ok v h2 =>
     obtain ⟨vk,vn⟩:=v
     obtain ⟨rfl,A⟩:=R
     obtain ⟨L5,G5,S5⟩:=Gr.of_heap A (S1.out.below (by exact Rd.byB))
     have y9:=S5.c0
     have y0:=G5.cell (b:=w.heap.size) (o:=0) (v:=.slice pa m2.params.length pcap) nf0 (by go_simp)
     have y1:=G5.cell (b:=w.heap.size) (o:=1) (v:=.int .i64 m2.ret.kind) nf0 (by go_simp)
     have y2:=G5.cell (b:=w.heap.size) (o:=2) (v:=.int .i64 m2.ret.cls) nf0 (by go_simp)
     have y3:=G5.cell (b:=w.heap.size) (o:=3) (v:=.int .i64 m2.stack) nf0 (by go_simp)
     have y4:=G5.cell (b:=w.heap.size) (o:=4) (v:=.int .i64 m2.locals) nf0 (by go_simp)
     have y5:=G5.cell (b:=w.heap.size) (o:=5) (v:=.int .i64 m2.regs) nf0 (by go_simp)
     have y6:=G5.cell (b:=w.heap.size) (o:=6) (v:=.slice ca m2.code.length ccap) nf0 (by go_simp)
     have y7:=G5.cell (b:=w.heap.size) (o:=7) (v:=.slice ha m2.handlers.length hcap) nf0 (by go_simp)
     have e70:=G5.frz (b:=wr.heap.size) (o:=0) (x:=false) nf7 (by simp) (by go_simp)
     have e71:=G5.frz (b:=wr.heap.size) (o:=1) (x:=false) nf7 (by simp) (by go_simp)
     have e72:=G5.cell (b:=wr.heap.size) (o:=0) (v:=.int .i64 0) nf7 (by go_simp)
     have e73:=G5.cell (b:=wr.heap.size) (o:=1) (v:=.int .i64 0) nf7 (by go_simp)
     have nf75:=G5.nf (by simp) nf7
     have e7c:=cell_lt e72
     have n71:P.cb≠wr.heap.size:=by omega
     have n72:wr.heap.size≠P.cb:=by omega
     have n73:w.heap.size≠wr.heap.size:=by omega
     have n74:wr.heap.size≠w.heap.size:=by omega
     have GC:=Lib.hid ((GG1.out.trans (Gr.of_below (by exact Rd.byB))).trans G5)
     have hcb5:=S5.cbw
     have lt5:=cell_lt y0
     have hB5:=S5.base
     replace S5:=Lib.hid S5
     clear A G5 b0 b1 b2 b3 b4 b5 b6 b7 z0
     unfold vl
     go_wp2_with fail
     refine Drawn.bk hK (h:=fun hHeld=>?_)
     clear hK K
     refine Drawn.cl 8 (fun K hK=>?_)
     go_simp
     refine Drawn.bk hK (h:=fun hHeld=>?_)
     clear hK K
     refine wpAnyH_done (by kernel_rfl) ?_ _
     generalize hWW:(w5.setCell ⟨wr.heap.size,0,none⟩ (.int .i64 vk)).setCell ⟨wr.heap.size,1,none⟩ (.int .i64 vn)=W
     replace hWW:=Lib.hid hWW
     have u1:W.cell? ⟨w.heap.size,1,none⟩=some (.int .i64 m2.ret.kind):=by rw [← hWW.out];go_simp
     have t0:W.cell? ⟨wr.heap.size,0,none⟩=some (.int .i64 vk):=by rw [← hWW.out];go_simp
     have t1:W.cell? ⟨wr.heap.size,1,none⟩=some (.int .i64 vn):=by rw [← hWW.out];go_simp
     have GD:=Lib.hid (Gr.trans (GC.out.over (b:=wr.heap.size) (by omega) 0 1 (.int .i64 vk) (.int .i64 vn)) (Gr.of_below (w1:=W) (by rw [← hWW.out];exact Rd.byB)))
     have SD:=Lib.hid (ST.below (w':=W) ((S5.out.res (b:=wr.heap.size) (by omega) nf75 0 (.int .i64 vk)).res (by omega) nf75 1 (.int .i64 vn)) (by rw [← hWW.out];exact Rd.byB))
     clear hWW y0 y1 y2 y3 y4 y5 y6 y7 y9
     by_cases hrk:m2.ret.kind=0
     ·have hrb:(m2.ret.kind==0)=true:=by simpa using hrk
      go_wp2_with fail
      go_end0
      rw [EA.out,callA_ok0 hrk]
      exact ⟨rfl,GD.out.lft SD.out⟩
     ·have hrb:(m2.ret.kind==0)=false:=by simpa using hrk
      go_wp2_with fail
      go_at_call 111
      refine (put SD.out ⟨vk,vn⟩ (by simp only [List.length_take];omega)).mono ?_
      rintro e w9 (⟨q9,rfl,A⟩ | ⟨q9,rfl,A⟩)
      ·go_wp2
       go_end0
       rw [EA.out,callA_ok1 hrk]
       exact plr_yes (fr:=fr) q9 A GD.out
      ·unfold pan
       refine And.intro rfl ?_
       rw [EA.out,callA_ok1 hrk]
       exact plr_no (fr:=fr) q9 A GD.out
  | succ k' =>
   have ek:(((k'+1:Nat):Int) - 1)=(k':Int):=by omega
   rw [ek]
   by_cases hn:m2.params.length=fr.stk.length+k'+1
   ·have ha0:fr.stk.length+(k'+1) - m2.params.length=0:=by omega
    rw [ha0] at S1
    replace S1:=Lib.hid S1
    go_wp2_with fail
    go_at_call 105
    refine (anyNo S1.out (by simp)).mono ?_
    rintro e w3 ⟨rfl,hb3⟩
    unfold pan
    refine And.intro rfl ?_
    have e6:act=.stop 6 h:=by rw [← hact.out,if_pos (by omega)]
    rw [e6]
    exact plr_stuck (GG1.out.trans (Gr.of_below hb3)) (S1.out.below hb3)
   ·obtain ⟨q,hq⟩:∃ q,Hid (fr.stk.length+k' - m2.params.length=q):=⟨_,Lib.hid rfl⟩
    have hq':fr.stk.length+k' - m2.params.length=q:=hq.out
    have hqs:fr.stk.length+(k'+1) - m2.params.length=q+1:=by omega
    have hql:q < fr.stk.length:=by omega
    rw [hqs] at S1
    have hbb:=BB1.out
    rw [hqs] at hbb
    obtain ⟨t1,t2,t3⟩:=top_take fr.stk q hql
    replace S1:=Lib.hid S1
    obtain ⟨⟨tk,tn⟩,ht⟩:∃ t,Hid (fr.stk.getD q Vl.nil=t):=⟨_,Lib.hid rfl⟩
    have hbN:(k':Int) < m2.params.length:=by omega
    have HQ:=Lib.hid hq'
    clear hq hq' hqs
    go_wp2_with fail
    go_at_call 105
    refine (anyOk S1.out t1 (by simp only [List.length_take];omega)).mono ?_
    rw [t2,ht.out]
    unfold vl
    rintro e w3 ⟨rfl,A⟩
    simp only [t3] at A
    obtain ⟨L3,v3,G3,S3⟩:=A.opn
    have hsz0:w.heap.size < wr.heap.size:=by omega
    have nfa:=G3.nf hsz0 nf0
    have nfb:=G3.nf hsz nf1
    have B0':=BB0.out.next G3.kp nf0
    have B1':=hbb.next G3.kp nf1
    obtain ⟨g0,g1,gf0,gf1⟩:=Blk.getV B1' (i:=k') (by simp;omega)
    have GC:=Lib.hid (GG1.out.trans G3)
    have lt3:=cell_lt g0
    have lt30:w.heap.size < w3.heap.size:=by omega
    have hB3:=S3.base
    have hset:=Blk.setV B1' (i:=k') (by simp;omega) ⟨tk,tn⟩
    rw [← ht.out,rowStep fr.stk k' q hql,ht.out] at hset
    have hwr2:IntKind.i64.wrap ((k':Int) - 1)=(k':Int) - 1:=by rw [Num.wrap_i64,wrap64_id (by unfold Ok;omega)]
    have HT:=Lib.hid hset
    replace S3:=Lib.hid S3
    have B0h:=Lib.hid B0'
    clear A G3 B1' hset BB0 BB1 hbb z0 hcb1 B0'
    go_wp2_with fail
    go_roundw
    case rel =>
     refine ⟨k',by first | rfl | go_num,by omega,by omega,L3,v3,GC.out.over (by omega) _ _ _ _,?_,((B0h.out.far (by omega) _).far (by omega) _),?_,nfa,nfb,by simp;omega⟩
     ·rw [show fr.stk.length+k' - m2.params.length=q from HQ.out]
      exact (S3.out.res (by omega) nfb _ _).res (by omega) nfb _ _
     ·rw [show fr.stk.length+k' - m2.params.length=q from HQ.out]
      exact HT.out
    case measure=>first | (simp [intOf];done) | (simp [intOf];omega)
end
end Hpw
namespace Hpw
open Num Rd D Run Mem HierW
section
variable {E:Ev}{w w' w1 w2:World}{L L' L1:Lay}{h h' h1 h2:Hp}{d:Nat}{P:PS}{m:Me}{fr fr' fr1:Sf}{vs vs1:Value}
theorem outC_callA (m2:Me) (f:Sf) (r:Res Vl):outC SM m m2 f r=oA (callA m m2 f r):=by
 cases r with
 | stop e h=>rfl
 | thrown o h=>rfl
 | ok v h =>
  simp only [outC,callA]
  have e:SM.resume m m2 f v=sresume m m2 f v:=rfl
  rw [e]
  cases sresume m m2 f v <;> rfl
theorem outA_nc {f:Fi}{input:List Int}{fuel g d:Nat}{a:Run.Act Sf}(hn:NC a):outA SM f input fuel g d m a=oA a:=by
 cases a with
 | call k args fr h=>exact hn.elim
 | _=>rfl
theorem act19 {f:Fi}{input:List Int}{fuel g d k:Nat}{b c n:Int}{args:List Int}:outA SM f input fuel g d m (sstep f input m ⟨19,(k:Int),b,c,n,args⟩ fr h)=if fr.stk.length < (meAt f k).params.length then .stop 6 h else oA (callA m (meAt f k) ⟨fr.loc,fr.stk.take (fr.stk.length - (meAt f k).params.length),fr.at_⟩ (call SM f input fuel g d (meAt f k) (fr.stk.drop (fr.stk.length - (meAt f k).params.length)) h)):=by
 by_cases hl:fr.stk.length < (meAt f k).params.length
 ·rw [st19n (by rw [Int.toNat_natCast];exact hl),if_pos hl];rfl
 ·rw [st19 (by rw [Int.toNat_natCast];exact hl),if_neg hl,Int.toNat_natCast]
  exact outC_callA _ _ _
def NXO (a0:Nat):Out Sf→Prop
 | .go fr' _=>fr'.at_=a0+1
 | .back _ _=>False
 | _=>True
theorem callA_nx {m2:Me}{f:Sf}{r:Res Vl}:NXO f.at_ (oA (callA m m2 f r)):=by
 cases r with
 | stop e h=>trivial
 | thrown o h=>trivial
 | ok v h =>
  simp only [callA,sresume]
  by_cases q:m2.ret.kind=0
  ·simp [q,oA,on,NXO]
  ·by_cases q2:(size (f.stk++[v]):Int)≤m.stack
   ·simp [q,q2,oA,on,NXO]
   ·simp [q,q2,oA,NXO]
set_option maxRecDepth 100000 in
theorem do19 (S:ST E w L P m d h fr vs) (hbig:fr.stk.length≤1000) (hatb:fr.at_≤100000) (hs:h.steps < E.fuel) (hfu:E.fuel≤60000) (b c n:Int) (args:List Int) (k:Nat) (hi:m.code[fr.at_]? = some ⟨19,(k:Int),b,c,n,args⟩) (HO:HpOk E.f.classes E.input E.fuel (stepped h)) (hf:SfOk m h.objs.length fr) (hl:fr.stk.length≤40) (hk:k < E.f.methods.length) (h4:(meAt E.f k).params.length≤4) (g:Nat) (HI:InvOk E d g (stepped h)) (hmany:E.f.methods.length≤8) :
  Calls Tryz.prog 54 #[.pointer (some ⟨P.cb,0,none⟩)] w (DoR E L P m d vs fr w (if fr.stk.length < (meAt E.f k).params.length then .stop 6 (stepped h) else oA (callA m (meAt E.f k) ⟨fr.loc,fr.stk.take (fr.stk.length - (meAt E.f k).params.length),fr.at_⟩ (call SM E.f E.input E.fuel g d (meAt E.f k) (fr.stk.drop (fr.stk.length - (meAt E.f k).params.length)) (stepped h))))):=by
 have HIV:=Lib.hid HI
 clear HI
 obtain ⟨ac,hac⟩:∃ x,Hid ((if fr.stk.length < (meAt E.f k).params.length then .stop 6 (stepped h) else oA (callA m (meAt E.f k) ⟨fr.loc,fr.stk.take (fr.stk.length - (meAt E.f k).params.length),fr.at_⟩ (call SM E.f E.input E.fuel g d (meAt E.f k) (fr.stk.drop (fr.stk.length - (meAt E.f k).params.length)) (stepped h))))=x):=⟨_,Lib.hid rfl⟩
 have hnx:NXO fr.at_ ac:=by
  rw [← hac.out]
  by_cases q:fr.stk.length < (meAt E.f k).params.length
  ·rw [if_pos q];trivial
  ·rw [if_neg q];exact callA_nx
 rw [hac.out]
 have HS:=Lib.hid S
 have hcb:=S.cbw
 have hat:fr.at_ < m.code.length:=(List.getElem?_eq_some_iff.1 hi).1
 obtain ⟨ica,icap,hvc,i1,i2,iel⟩:=id S.M.co
 obtain ⟨ib,io,rfl,hib,hie⟩:=iel fr.at_ hat
 have hx:m.code[fr.at_]=⟨19,(k:Int),b,c,n,args⟩:=by rw [List.getElem?_eq_getElem hat] at hi;exact Option.some.inj hi
 rw [hx] at hie
 obtain ⟨x0,x1,x2,x3,x4,_,va,x5,hva⟩:=hie
 obtain ⟨aa,acap,rfl,_⟩:=hva
 simp only at x0 x1 x2 x3 x4
 have c7:=S.c7
 rw [hvc] at c7
 have c0:=S.c0
 have c11:=S.c11
 have nr:=S.fo_new (Nat.le_refl _)
 have nrO:¬ own E L w.heap.size:=fun hk=>nr (.inl hk)
 have nib:¬ fo E L P vs ib:=fun hk=>by have:=(S.fo_lo hk).1;omega
 have nibO:¬ own E L ib:=fun hk=>nib (.inl hk)
 have hibw:ib < w.heap.size:=by have:=S.base;omega
 have hati:(fr.at_:Int) < m.code.length:=by omega
 have hatd:decide ((fr.at_:Int) < m.code.length)=true:=by simpa using hati
 have hwr:IntKind.i64.wrap ((fr.at_:Int)+1)=(fr.at_:Int)+1:=by rw [Num.wrap_i64,wrap64_id (by unfold Ok;omega)]
 have HCO:=Lib.hid hvc
 clear S iel hi hx hvc i1
 go_enter Tryz.func54,Tryz.ntmps54
 go_wp2_with (go_at_call 104;refine (stepOk (HS.out.below (by exact Rd.byB)).H hs hfu).mono ?_;rintro e w2 ⟨rfl,H2,K2⟩;have S2:=(HS.out.below (w':=w.alloc (.cells #[.int .i64 0,.int .i64 0] 46)) (by exact Rd.byB)).heap K2 same_own H2;have r0:=K2.cell (c:=w.heap.size) (o:=0) (v:=.int .i64 0) (by go_simp) nrO;have r1:=K2.cell (c:=w.heap.size) (o:=1) (v:=.int .i64 0) (by go_simp) nrO;have rf0:=K2.frz (c:=w.heap.size) (o:=0) (b:=false) (by go_simp) (by simp) nrO;have rf1:=K2.frz (c:=w.heap.size) (o:=1) (b:=false) (by go_simp) (by simp) nrO;have z0:=S2.c0;have z11:=S2.c11;have z7:=S2.c7;rw [HCO.out] at z7;have u0:=K2.cell (c:=ib) (o:=io+fr.at_*6) (v:=.int .i64 (19)) (by go_simp) nibO;have u1:=K2.cell (c:=ib) (o:=io+fr.at_*6+1) (v:=.int .i64 (k:Int)) (by go_simp) nibO;have u2:=K2.cell (c:=ib) (o:=io+fr.at_*6+2) (v:=.int .i64 b) (by go_simp) nibO;have u3:=K2.cell (c:=ib) (o:=io+fr.at_*6+3) (v:=.int .i64 c) (by go_simp) nibO;have u4:=K2.cell (c:=ib) (o:=io+fr.at_*6+4) (v:=.int .i64 n) (by go_simp) nibO;have u5:=K2.cell (c:=ib) (o:=io+fr.at_*6+5) (v:=.slice aa args.length acap) (by go_simp) nibO;have GW:=Lib.hid (show Gr E L P vs w L vs w2 from ⟨(Kp.of_below (B:=w.heap.size) (X:=fo E L P vs) (w':=w.alloc (.cells #[.int .i64 0,.int .i64 0] 46)) (by exact Rd.byB) (Nat.le_refl _)).trans K2 (fun y hy=>.inl (.inl hy)),fun _ q=>.inl q,fun _ q=>.inl q⟩);have nf2:=S2.fo_new (Nat.le_refl _);have hcb2:=S2.cbw;have hrw:=cell_lt r0;have hib2:=cell_lt u0;replace S2:=Lib.hid S2;clear H2 K2 c7 c0 c11 x0 x1 x2 x3 x4 x5)
 refine Drawn.hd (fun w'=>w'.cell? ⟨P.cb,11,none⟩=some (.int .i64 fr.at_)∧w'.cell? ⟨P.cb,7,none⟩=some (.slice (some ⟨ib,io,none⟩) m.code.length icap)) (h:=fun hHeld=>?_)
 refine Drawn.T 0 (some 12) (h:=?_)
 refine Drawn.T 1 (some 13) (h:=?_)
 refine Drawn.T 2 (some 14) (h:=?_)
 refine Drawn.T 3 (some 15) (h:=?_)
 refine Drawn.T 4 (some 16) (h:=?_)
 refine Drawn.T 5 (some 17) (h:=?_)
 refine Drawn.T 6 (some 18) (h:=?_)
 refine Drawn.T 7 (some 19) (h:=?_)
 refine Drawn.T 8 (some 20) (h:=?_)
 refine Drawn.T 9 (some 21) (h:=?_)
 refine Drawn.T 10 (some 22) (h:=?_)
 refine Drawn.cl 11 (fun K hK=>?_)
 go_simp
 refine (mustT _).mono ?_
 rintro e w3 ⟨rfl,rfl⟩
 go_wp2_with fail
 refine Drawn.bk hK (h:=fun hHeld=>?_)
 clear hK K
 refine wpAnyH_done (by kernel_rfl) ?_ _
 go_wp2_with fail
 refine Drawn.hd (fun w'=>w'.cell? ⟨P.cb,11,none⟩=some (.int .i64 fr.at_)∧w'.cell? ⟨P.cb,7,none⟩=some (.slice (some ⟨ib,io,none⟩) m.code.length icap)∧w'.cell? ⟨ib,io+fr.at_*6,none⟩=some (.int .i64 19)∧w'.cell? ⟨ib,io+fr.at_*6+1,none⟩=some (.int .i64 (k:Int))∧w'.cell? ⟨ib,io+fr.at_*6+2,none⟩=some (.int .i64 b)∧w'.cell? ⟨ib,io+fr.at_*6+3,none⟩=some (.int .i64 c)∧w'.cell? ⟨ib,io+fr.at_*6+4,none⟩=some (.int .i64 n)∧w'.cell? ⟨ib,io+fr.at_*6+5,none⟩=some (.slice aa args.length acap)) (h:=fun hHeld=>?_)
 refine Drawn.T 0 (some 24) (h:=?_)
 refine Drawn.T 1 (some 25) (h:=?_)
 refine Drawn.T 2 (some 26) (h:=?_)
 refine Drawn.T 3 (some 27) (h:=?_)
 refine Drawn.T 4 (some 28) (h:=?_)
 refine Drawn.T 5 (some 29) (h:=?_)
 refine Drawn.T 6 (some 30) (h:=?_)
 refine Drawn.T 7 (some 31) (h:=?_)
 refine Drawn.T 8 (some 32) (h:=?_)
 refine Drawn.T 9 (some 33) (h:=?_)
 refine Drawn.T 10 (some 34) (h:=?_)
 refine Drawn.cl 11 (fun K hK=>?_)
 go_simp
 refine Drawn.bk hK (h:=fun hHeld=>?_)
 clear hK K
 refine Drawn.cl 12 (fun K hK=>?_)
 go_simp
 refine Drawn.bk hK (h:=fun hHeld=>?_)
 clear hK K
 refine wpAnyH_done (by kernel_rfl) ?_ _
 generalize hWW:World.drew _=W
 replace hWW:=Lib.hid hWW
 have k0:W.cell? ⟨w2.heap.size,0,none⟩=some (.int .i64 (19)):=by rw [← hWW.out];go_simp
 have k1:W.cell? ⟨w2.heap.size,1,none⟩=some (.int .i64 (k:Int)):=by rw [← hWW.out];go_simp
 have k2:W.cell? ⟨w2.heap.size,2,none⟩=some (.int .i64 b):=by rw [← hWW.out];go_simp
 have k3:W.cell? ⟨w2.heap.size,3,none⟩=some (.int .i64 c):=by rw [← hWW.out];go_simp
 have k4:W.cell? ⟨w2.heap.size,4,none⟩=some (.int .i64 n):=by rw [← hWW.out];go_simp
 have k5:W.cell? ⟨w2.heap.size,5,none⟩=some (.slice aa args.length acap):=by rw [← hWW.out];go_simp
 have hbW:Below w2.heap.size w2 W:=by rw [← hWW.out];exact Rd.byB
 have hzW:w2.heap.size < W.heap.size:=cell_lt k0
 have SW:=S2.out.below hbW
 have s0:=kept hbW hrw r0
 have s1:=kept hbW hrw r1
 have sf0:=frz_kept hbW hrw rf0
 have sf1:=frz_kept hbW hrw rf1
 have e0:=SW.c0
 have e11:=SW.c11
 have ef11:=SW.fz 11 (by decide)
 have hcbW:=SW.cbw
 have hrW:w.heap.size < W.heap.size:=by omega
 have G:=Lib.hid (GW.out.trans (Gr.of_below hbW))
 replace SW:=Lib.hid SW
 clear hWW r0 r1 rf0 rf1 z0 z11 z7 u0 u1 u2 u3 u4 u5 GW hbW S2
 go_wp2_with fail
 go_at_call 108
 refine (calledP (SW.out.below (by exact Rd.byB)) HO hf hl k hk rfl h4 g HIV.out hmany).mono ?_
 rw [hac.out]
 rintro e w4 R
 cases ac with
 | go fr' h' =>
  obtain ⟨l',s',a'⟩:=fr'
  have ha':a'=fr.at_+1:=hnx
  subst ha'
  obtain ⟨rfl,A⟩:=R
  obtain ⟨L4,v4,G4,S4⟩:=(LftF.before (w:=W) (by exact Rd.byB) A).opn
  have t0:=G4.cell (b:=w.heap.size) (o:=0) (v:=.int .i64 0) nr (by go_simp)
  have t1:=G4.cell (b:=w.heap.size) (o:=1) (v:=.int .i64 0) nr (by go_simp)
  have tf0:=G4.frz (b:=w.heap.size) (o:=0) (x:=false) nr (by first | omega | (simp;omega)) (by go_simp)
  have tf1:=G4.frz (b:=w.heap.size) (o:=1) (x:=false) nr (by first | omega | (simp;omega)) (by go_simp)
  have nr4:=G4.nf (by first | omega | (simp;omega)) nr
  have GB:=Lib.hid (G.out.trans G4)
  have hrw4:=cell_lt t0
  replace S4:=Lib.hid S4
  clear A G4 s0 s1 sf0 sf1 k0 k1 k2 k3 k4 k5 e0 e11 ef11
  have e11':=S4.out.c11
  have ef11':=S4.out.fz 11 (by decide)
  have hcb':=S4.out.cbw
  go_wp2_with fail
  refine bodyPost_ret (v:=.tuple #[.agg #[.int .i64 0,.int .i64 0],.bool false]) (by simp [results,Tryz.results54,go_sem] <;> go_simp) rfl ?_
  obtain ⟨L8,v8,G8,S8⟩:=(S4.out.setAt (fr.at_+1)).opn
  exact ⟨rfl,Gr.upon HS.out (GB.out.trans G8) S8 (Nat.le_refl _) (G8.nf hrw4 nr4) _ _⟩
 | back v h'=>exact hnx.elim
 | thrown o h' =>
  obtain ⟨⟨older,hol,rfl⟩,st,A⟩:=R
  refine And.intro rfl ?_
  exact ⟨⟨older,hol,rfl⟩,st,G.out.comp (LftF.before (w:=W) (by exact Rd.byB) A)⟩
 | stop c2 h' =>
  obtain ⟨⟨older,hol,rfl⟩,A⟩:=R
  refine And.intro rfl ?_
  refine ⟨⟨older,hol,rfl⟩,G.out.compS ?_⟩
  obtain ⟨L5,K5,N5,H5⟩:=A
  exact ⟨L5,(Kp.of_below (B:=W.heap.size) (by exact Rd.byB) (Nat.le_refl _)).trans K5 (fun y hy=>.inl hy),fun k hk=>(N5 k hk).imp id (fun q=>Nat.le_trans (Below.size (B:=W.heap.size) (by exact Rd.byB)) q),H5⟩
theorem top_mem2 {l:List Vl}(h:l≠[]):top l∈l:=by
 unfold top
 rw [List.getLast?_eq_some_getLast h]
 exact List.getLast_mem h
theorem doP (FS:FiS E.f) (hm:m∈E.f.methods) (S:ST E w L P m d h fr vs) (HO:HpOk E.f.classes E.input E.fuel h) (hf:SfOk m h.objs.length fr) (hl:fr.stk.length≤40) (hfu:E.fuel≤60000) (hin:E.input.length≤1000) (g:Nat) (HI:InvOk E d g (stepped h)) :
  Calls Tryz.prog 54 #[.pointer (some ⟨P.cb,0,none⟩)] w (DoR E L P m d vs fr w (outS SM E.f E.input E.fuel g d m fr h)):=by
 have MS:=FS.mes m hm
 unfold outS
 by_cases q:E.fuel≤h.steps
 ·rw [if_pos q];exact doFuel S hfu q
 rw [if_neg q]
 have hs:h.steps < E.fuel:=by omega
 have ea:SM.at_ fr=fr.at_:=rfl
 rw [ea]
 cases hi:m.code[fr.at_]? with
 | none=>exact doEnd S hfu hs hi
 | some i =>
  have hI:=MS.ins i (List.mem_of_getElem? hi)
  have hat:fr.at_ < m.code.length:=(List.getElem?_eq_some_iff.1 hi).1
  have hatb:fr.at_≤100000:=by have:=MS.code;omega
  have hbig:fr.stk.length≤1000:=by omega
  show Calls _ _ _ _ (DoR E L P m d vs fr w (outA SM E.f E.input E.fuel g d m (sstep E.f E.input m i fr (stepped h))))
  have HO1:HpOk E.f.classes E.input E.fuel (stepped h):=⟨HO.many,HO.obs,HO.out,Nat.le_succ_of_le HO.outs,HO.used,hs⟩
  have vo:∀ v∈fr.stk,v.kind=3→v.n < h.objs.length:=fun v hv e=>((hf.stk v hv).1.2.2.2 e).2
  obtain ⟨op,a,b,c,n,args⟩:=i
  by_cases q11:op=11
  ·subst q11
   rw [st11];exact do11 S hbig hatb hs hfu a b c n args hi (hI.jump (.inl rfl)).1
  by_cases q12:op=12
  ·subst q12
   have ha:=(hI.jump (.inr (.inl rfl))).1
   by_cases hn:fr.stk=[]
   ·rw [st12n hn];exact do12n S hbig hatb hs hfu a b c n args hi hn
   ·rw [st12 hn];unfold kindly
    by_cases hk:(top fr.stk).kind=1
    ·rw [if_pos hk]
     cases hh:Num.holds b (top fr.stk).n
     ·exact do12f S hbig hatb hs hfu a b c n args hi hn hk ha hh
     ·exact do12t S hbig hatb hs hfu a b c n args hi hn hk ha hh
    ·rw [if_neg hk];exact do12b S hbig hatb hs hfu a b c n args hi hn hk
  by_cases q13:op=13
  ·subst q13
   have ha:=(hI.jump (.inr (.inr rfl))).1
   by_cases hn:fr.stk=[]
   ·rw [st13n hn];exact do13n S hbig hatb hs hfu a b c n args hi hn
   ·rw [st13 hn];unfold kindly
    by_cases hk:(top fr.stk).kind=3
    ·rw [if_pos hk]
     by_cases hh:(top fr.stk).n < 0
     ·rw [if_pos hh];exact do13t S hbig hatb hs hfu a b c n args hi hn hk ha hh
     ·rw [if_neg hh];exact do13f S hbig hatb hs hfu a b c n args hi hn hk ha hh
    ·rw [if_neg hk];exact do13b S hbig hatb hs hfu a b c n args hi hn hk
  by_cases q19:op=19
  ·subst q19
   obtain ⟨ha,hk⟩:=hI.meth rfl
   simp only at ha hk
   obtain ⟨k,rfl⟩:=Int.eq_ofNat_of_zero_le ha
   have hk':k < E.f.methods.length:=by omega
   rw [act19]
   exact do19 S hbig hatb hs hfu b c n args k hi HO1 hf hl hk' (FS.mes _ (meAt_mem hk')).params.1 g HI FS.many.2
  by_cases q20:op=20
  ·subst q20
   rw [outA_nc (sstep_nc (by simp))]
   have e20:sstep E.f E.input m ⟨20,a,b,c,n,args⟩ fr (stepped h)=s20 E.f.classes m fr (stepped h):=by simp [sstep]
   rw [e20]
   unfold s20
   by_cases hr:m.ret.kind=0
   ·rw [if_pos hr];exact do20v S hbig hatb hs hfu a b c n args hi (by simpa using hr)
   ·rw [if_neg hr]
    have hrb:(m.ret.kind==0)=false:=by simpa using hr
    by_cases hn:fr.stk=[]
    ·rw [show pop1 fr (stepped h) _=Run.Act.stop 6 (stepped h) from by unfold pop1;simp [hn]]
     exact do20n S hbig hatb hs hfu a b c n args hi hrb hn
    ·have hmem:=top_mem2 hn
     cases ho:ofT E.f.classes (stepped h) (top fr.stk) m.ret
     ·have e:pop1 fr (stepped h) (fun v x=>if ofT E.f.classes (stepped h) v m.ret=true then .back v (stepped h) else .stop 6 (stepped h))=.stop 6 (stepped h):=by unfold pop1;simp [hn,ho]
      rw [e]
      exact do20f S hbig hatb hs hfu a b c n args hi hrb hn FS.may (vo _ hmem) ho
     ·have e:pop1 fr (stepped h) (fun v x=>if ofT E.f.classes (stepped h) v m.ret=true then .back v (stepped h) else .stop 6 (stepped h))=.back (top fr.stk) (stepped h):=by unfold pop1;simp [hn,ho]
      rw [e]
      exact do20t S hbig hatb hs hfu a b c n args hi hrb hn FS.may (vo _ hmem) ho
  by_cases q21:op=21
  ·subst q21
   rw [outA_nc (sstep_nc (by simp))]
   have e21:sstep E.f E.input m ⟨21,a,b,c,n,args⟩ fr (stepped h)=s21 E.f.classes fr (stepped h):=by simp [sstep]
   rw [e21]
   unfold s21
   by_cases hn:fr.stk=[]
   ·rw [show pop1 fr (stepped h) _=Run.Act.stop 6 (stepped h) from by unfold pop1;simp [hn]]
    exact do21n S hbig hatb hs hfu a b c n args hi hn
   ·have e:pop1 fr (stepped h) (fun v x=>(Run.throw E.f.classes v (stepped h)).act fun (_:Unit) h=>.stop 6 h)=(Run.throw E.f.classes (top fr.stk) (stepped h)).act fun (_:Unit) h=>.stop 6 h:=by unfold pop1;simp [hn]
    rw [e]
    exact do21o S hbig hatb hs hfu a b c n args hi hn FS.may
  rw [outA_nc (sstep_nc q19)]
  exact dopl S hbig hatb hs hfu op a b c n args hi FS MS HO1 hf hl hin hI (by simpa using q20) (by simpa using q11) (by simpa using q12) (by simpa using q13) (by simpa using q19) (by simpa using q21)
end
end Hpw
namespace Hpw
open Num Rd D Run Mem HierW
section
variable {E:Ev}{w w' w1 w2:World}{L L' L1:Lay}{h h' h1 h2:Hp}{d:Nat}{P:PS}{m m2:Me}{fr fr' fr1:Sf}{vs vs1:Value}
theorem ST.newLoc (S:ST E w L P m d h fr vs){l:List Vl}(hl:l.length=fr.loc.length) (K:Kp (· = P.lb) w w') (B:Blk w' P.lb (vcells l)):ST E w' L P m d h ⟨l,fr.stk,fr.at_⟩ vs:=by
 refine ⟨S.H.keep K (fun k e=>by subst e;exact ⟨S.lo.2,S.far.2.1⟩),S.M.mono (K.below S.base (fun k e=>by subst e;exact S.lo.2)),?_,B,Nat.lt_of_lt_of_le S.lbw K.size,row_keep S.stk K (fun g hg e=>S.ne.2.2 (e ▸ hg)),S.lo,S.far,S.ne⟩
 have:=S.blk.next K S.ne.1
 unfold fcs at this ⊢
 rw [hl]
 exact this
theorem stNew (H:PH E w2 L h d) (vp vc vh:Value) (lb:Nat) (M:Mi E w2 ⟨w2.heap.size,lb,vp,vc,vh⟩ m) (hB:Blk w2 lb (vcells (List.replicate m.locals.toNat Vl.nil))) (hlb:lb < w2.heap.size) (hlo:E.B≤lb) (hfar:∀ k,own E L k→k < lb) (T:TypeId) :
  ST E (w2.alloc (.cells #[.pointer (some ⟨E.hb,0,none⟩),vp,.int .i64 m.ret.kind,.int .i64 m.ret.cls,.int .i64 m.stack,.int .i64 m.locals,.int .i64 m.regs,vc,vh,.slice (some ⟨lb,0,none⟩) m.locals.toNat m.locals.toNat,.slice none 0 0,.int .i64 0] T)) L ⟨w2.heap.size,lb,vp,vc,vh⟩ m d h ⟨List.replicate m.locals.toNat Vl.nil,[],0⟩ (.slice none 0 0):=by
 have hfc:fcs E ⟨w2.heap.size,lb,vp,vc,vh⟩ m ⟨List.replicate m.locals.toNat Vl.nil,[],0⟩ (.slice none 0 0)=[.pointer (some ⟨E.hb,0,none⟩),vp,.int .i64 m.ret.kind,.int .i64 m.ret.cls,.int .i64 m.stack,.int .i64 m.locals,.int .i64 m.regs,vc,vh,.slice (some ⟨lb,0,none⟩) m.locals.toNat m.locals.toNat,.slice none 0 0,.int .i64 0]:=by simp [fcs,mcs]
 have hbe:Below w2.heap.size w2 (w2.alloc (.cells #[.pointer (some ⟨E.hb,0,none⟩),vp,.int .i64 m.ret.kind,.int .i64 m.ret.cls,.int .i64 m.stack,.int .i64 m.locals,.int .i64 m.regs,vc,vh,.slice (some ⟨lb,0,none⟩) m.locals.toNat m.locals.toNat,.slice none 0 0,.int .i64 0] T)):=by exact Rd.byB
 refine ⟨H.below hbe,M.mono (hbe.mono (by omega)),?_,hB.alloc _,by show lb < _;simp;omega,World.ownsRow_nil _ _ _ _,⟨by show E.B≤w2.heap.size;omega,hlo⟩,⟨fun hk=>?_,fun hk=>?_,fun g hg=>by cases hg⟩,⟨by show w2.heap.size≠lb;omega,by simp [Value.ownBlock],by simp [Value.ownBlock]⟩⟩
 ·rw [hfc];exact Blk.made w2 _ T
 ·have:=hfar _ hk;simp only at this;omega
 ·have:=hfar _ hk;simp only at this;omega
set_option maxRecDepth 100000 in
theorem beginP (H:PH E w L h d) (X:Nat→Prop){va mv:Value}(args:List Vl) (hVM:VMe w E.B mv m) (ha:VS w X va args) (hl4:args.length≤4) (hml:m.locals < 61) (hsz:(size args:Int)≤m.locals) (hv:∀ v∈args,VtOk h.objs.length v)
  (b3 b4 b5:Nat) (c3:w.cell? ⟨b3,0,none⟩=some (.pointer (some ⟨E.hb,0,none⟩))) (c5:w.cell? ⟨b5,0,none⟩=some va)
  (vp vc vh:Value) (hmv:mv=.agg #[vp,.int .i64 m.ret.kind,.int .i64 m.ret.cls,.int .i64 m.stack,.int .i64 m.locals,.int .i64 m.regs,vc,vh]) (B4:Blk w b4 [vp,.int .i64 m.ret.kind,.int .i64 m.ret.cls,.int .i64 m.stack,.int .i64 m.locals,.int .i64 m.regs,vc,vh]) :
  Calls Tryz.prog 51 #[.pointer (some ⟨b3,0,none⟩),.pointer (some ⟨b4,0,none⟩),.pointer (some ⟨b5,0,none⟩)] w fun e w'=>∃ P:PS,e=.returned (frV P.cb)∧Below w.heap.size w w'∧ST E w' L P m d h (senter m args) (.slice none 0 0)∧w.heap.size≤P.cb∧w.heap.size≤P.lb:=by
 have HH:=Lib.hid H
 have HA:=Lib.hid ha
 have HV:=Lib.hid hv
 have hEB:E.B≤w.heap.size:=by have:=H.base;omega
 obtain ⟨vp',vc',vh',hmv',oks,sps,sco,shs⟩:=hVM
 obtain ⟨rfl,rfl,rfl⟩:vp=vp'∧vc=vc'∧vh=vh':=by
  rw [hmv] at hmv'
  simp at hmv'
  exact ⟨hmv'.1,hmv'.2.1,hmv'.2.2⟩
 obtain ⟨pa,pcap,rfl,p1,p2,_⟩:=id sps
 obtain ⟨ca,ccap,rfl,p3,p4,_⟩:=id sco
 obtain ⟨ha',hcap,rfl,p5,p6,_⟩:=id shs
 obtain ⟨ax,acap,rfl,a1,a2⟩:=ha.len
 have M0:=Lib.hid sps
 have M1:=Lib.hid sco
 have M2:=Lib.hid shs
 have m0:=(B4 0 (by simp)).1
 have m1:=(B4 1 (by simp)).1
 have m2:=(B4 2 (by simp)).1
 have m3:=(B4 3 (by simp)).1
 have m4:=(B4 4 (by simp)).1
 have m5:=(B4 5 (by simp)).1
 have m6:=(B4 6 (by simp)).1
 have m7:=(B4 7 (by simp)).1
 simp only [List.getElem_cons_zero,List.getElem_cons_succ] at m0 m1 m2 m3 m4 m5 m6 m7
 have l3:=cell_lt c3
 have l4:=cell_lt m0
 have l5:=cell_lt c5
 clear H hv ha hmv hmv' sps sco shs B4
 go_enter Tryz.func51,Tryz.ntmps51
 go_wp2_with fail
 generalize hW1:World.alloc w _=W1
 replace hW1:=Lib.hid hW1
 have s1:W1.heap.size=w.heap.size+1:=by rw [← hW1.out];simp
 have hb1:Below w.heap.size w W1:=by rw [← hW1.out];exact Rd.byB
 have f0:W1.frozen? ⟨w.heap.size,0,none⟩=false:=by rw [← hW1.out];go_simp
 have v0:W1.cell? ⟨w.heap.size,0,none⟩=some Value.nilFunc:=by rw [← hW1.out];go_simp
 have f1:W1.frozen? ⟨w.heap.size,1,none⟩=false:=by rw [← hW1.out];go_simp
 have v1:W1.cell? ⟨w.heap.size,1,none⟩=some Value.nilFunc:=by rw [← hW1.out];go_simp
 have f2:W1.frozen? ⟨w.heap.size,2,none⟩=false:=by rw [← hW1.out];go_simp
 have v2:W1.cell? ⟨w.heap.size,2,none⟩=some Value.nilFunc:=by rw [← hW1.out];go_simp
 clear hW1
 have q3:=kept hb1 l3 c3
 have q5:=kept hb1 l5 c5
 have r0:=kept hb1 l4 m0
 have r1:=kept hb1 l4 m1
 have r2:=kept hb1 l4 m2
 have r3:=kept hb1 l4 m3
 have r4:=kept hb1 l4 m4
 have r5:=kept hb1 l4 m5
 have r6:=kept hb1 l4 m6
 have r7:=kept hb1 l4 m7
 have hlo:((m.locals.toNat:Nat):Int)=m.locals:=by omega
 obtain ⟨w2,hrun,hblk,hbel,hlt⟩:=mkSlots m.locals.toNat (by omega) W1.drew
 rw [hlo] at hrun
 have e1:W1.drew.heap.size=W1.heap.size:=rfl
 rw [e1] at hblk hlt hbel hrun
 have hb2:Below W1.heap.size W1 w2:=Below.trans (by exact Rd.byB) hbel
 have B2:=Lib.hid hblk
 have t3:=kept hb2 (cell_lt q3) q3
 have t5:=kept hb2 (cell_lt q5) q5
 have t10:=kept hb2 (cell_lt r0) r0
 have t11:=kept hb2 (cell_lt r1) r1
 have t12:=kept hb2 (cell_lt r2) r2
 have t13:=kept hb2 (cell_lt r3) r3
 have t14:=kept hb2 (cell_lt r4) r4
 have t15:=kept hb2 (cell_lt r5) r5
 have t16:=kept hb2 (cell_lt r6) r6
 have t17:=kept hb2 (cell_lt r7) r7
 have g0:=frz_kept hb2 (by omega) f0
 have u0:=kept hb2 (by omega) v0
 have g1:=frz_kept hb2 (by omega) f1
 have u1:=kept hb2 (by omega) v1
 have g2:=frz_kept hb2 (by omega) f2
 have u2:=kept hb2 (by omega) v2
 have HB1:=Lib.hid hb1
 have HB2:=Lib.hid hb2
 have l31:=cell_lt q3
 have l41:=cell_lt r0
 have l32:=cell_lt t3
 have l42:=cell_lt t10
 have l52:=cell_lt t5
 clear hblk hbel hb1 hb2 e1 m0 m1 m2 m3 m4 m5 m6 m7 c3 c5
 go_region
 generalize hWW:World.alloc w2 _=W
 have hbW:Below w2.heap.size w2 W:=by rw [← hWW];exact Rd.byB
 have s2:=HB2.out.size
 have hb02:Below w.heap.size w w2:=HB1.out.trans (HB2.out.mono (by omega))
 have hcbW:w2.heap.size < W.heap.size:=by rw [← hWW];simp
 obtain ⟨P,hP⟩:∃ P:PS,Hid (P=⟨w2.heap.size,w.heap.size+1,.slice pa m.params.length pcap,.slice ca m.code.length ccap,.slice ha' m.handlers.length hcap⟩):=⟨_,Lib.hid rfl⟩
 have SN:ST E W L P m d h ⟨List.replicate m.locals.toNat Vl.nil,[],0⟩ (.slice none 0 0):=by
  have hB2:=B2.out
  rw [s1] at hB2
  rw [hP.out,← hWW]
  exact stNew (HH.out.below hb02) _ _ _ (w.heap.size+1) (Mi.mono (w:=w) ⟨M0.out,M1.out,M2.out,oks⟩ (hb02.mono hEB)) hB2 (by omega) (by omega) (fun k hk=>by have:=own_lo HH.out hk;omega) _
 have hPc:P.cb=w2.heap.size:=by rw [hP.out]
 have hPl:P.lb=w.heap.size+1:=by rw [hP.out]
 clear hP hWW q3 q5 r0 r1 r2 r3 r4 r5 r6 r7 B2 hrun
 have d0:=frz_kept hbW (by omega) g0
 have d1:=frz_kept hbW (by omega) g1
 have d2:=frz_kept hbW (by omega) g2
 have e0:=kept hbW (by omega) u0
 have e1:=kept hbW (by omega) u1
 have e2:=kept hbW (by omega) u2
 have x5:=kept hbW l52 t5
 have HBW:=Lib.hid (hb02.trans (hbW.mono (by omega)))
 have SN0:=Lib.hid SN
 have VA:=Lib.hid (HA.out.next (Kp.of_below (X:=fun _=>False) HBW.out (Nat.le_refl _)) (fun _ _ e=>e.elim) (X':=fun k=>w.heap.size≤k) (fun b hb e=>by omega))
 have HW0:w.heap.size < W.heap.size:=by omega
 have hbWs:w2.heap.size+1≤W.heap.size:=by omega
 have hcbge:w.heap.size+1 < w2.heap.size:=by omega
 have lbw:l5=l5:=rfl
 clear lbw t3 t5 t10 t11 t12 t13 t14 t15 t16 t17 g0 g1 g2 u0 u1 u2 f0 f1 f2 v0 v1 v2 hbW hb02 HB1 HB2 l31 l41 l32 l42 l52 SN hlt s1 hcbW s2
 rw [← hPc,← hPl]
 have hp1:w.heap.size < P.lb:=by omega
 have hp2:P.lb < P.cb:=by omega
 have hp3:w.heap.size < P.cb:=by omega
 clear hPc hPl hcbge hbWs
 go_wp2_with fail
 have hmf:∀ (fn:Fn) (first cap:Array Value) (w:World),(Instr.makeFunc fn first cap).run Tryz.prog w=.ok (.func fn first cap) w:=fun _ _ _ _=>rfl
 have hst:=Lib.hid (fun n (hn:n≤args.length)=>(stores_ok (n:=h.objs.length) (args.take n) (List.replicate m.locals.toNat Vl.nil) 0 (fresh_ok _ _) (fun v hv=>HV.out v (List.mem_of_mem_take hv)) (by have:=size_take_leP (args:=args) n;simp;omega)))
 go_loopw [5,17] (fun a i wr=>∃ n:Nat,i=.int .i64 n∧a=.int .i64 (size (args.take n):Nat)∧n≤args.length∧Hid (Kp (· = P.lb) W wr)∧Hid (ST E wr L P m d h ⟨stores (List.replicate m.locals.toNat Vl.nil) 0 (args.take n),[],0⟩ (.slice none 0 0))) (fun _ i _=>args.length - (intOf i).toNat)
 case atStart=>exact ⟨0,rfl,by simp [size],Nat.zero_le _,Lib.hid (Kp.refl _ _),by simpa [stores] using SN0⟩
 case round =>
  obtain ⟨n,rfl,rfl,hn,KL,SL⟩:=hrel
  by_cases hlt:n < args.length
  ·obtain ⟨ab,ao,acap',heq,hc1,hc2,hab,hnx,hel⟩:=VA.out.form (by omega)
   simp only [Value.slice.injEq] at heq
   obtain ⟨rfl,_,rfl⟩:=heq
   have hn1:(n:Int) < args.length:=by omega
   obtain ⟨z0,z1⟩:=hel n hlt
   have hane:ab≠P.lb:=fun e=>hnx (by omega)
   have y0:=KL.out.cell z0 (fun e=>hane e)
   have y1:=KL.out.cell z1 (fun e=>hane e)
   obtain ⟨v,hv⟩:=at_of hlt
   rw [hv.out] at y0 y1
   have hfit:size (args.take n)+width v≤m.locals.toNat:=by
    have h1:=size_takeP args n hlt
    have h2:=size_take_leP (args:=args) (n+1)
    rw [hv.out] at h1
    omega
   have hstep:Hid (stores (List.replicate m.locals.toNat Vl.nil) 0 (args.take (n+1))=Run.store (stores (List.replicate m.locals.toNat Vl.nil) 0 (args.take n)) (size (args.take n)) v):=by show _=_;rw [stores_takeP hlt,hv.out]
   have hsum:Hid (size (args.take (n+1))=size (args.take n)+width v):=by show _=_;rw [size_takeP args n hlt,hv.out]
   obtain ⟨vk,vn⟩:=v
   have c9:=SL.out.c9
   have hcb:=SL.out.cbw
   have hlbw:=SL.out.lbw
   have ln:(stores (List.replicate m.locals.toNat Vl.nil) 0 (args.take n)).length=m.locals.toNat:=by rw [(hst.out n hn).2];simp
   simp only [ln] at c9
   have STP:=Lib.hid (fun (w':World) (hB:Blk w' P.lb (vcells (stores (List.replicate m.locals.toNat Vl.nil) 0 (args.take n)))) (hb:P.lb < w'.heap.size)=>storeP hB hb (hst.out n hn).1.pair (size (args.take n)) ⟨vk,vn⟩ (by rw [ln];exact hfit) (by rw [ln];omega))
   rw [ln] at STP
   have FB:=Lib.hid SL.out.loc
   have hne1:P.cb≠P.lb:=by omega
   have hwl:wr.heap.size≠P.lb:=by omega
   have LN:=Lib.hid ln
   have HFIT:=Lib.hid hfit
   clear hel z0 z1 ln hfit hv
   go_wp2_with fail
   refine Drawn.hd (fun w'=>w'.cell? ⟨P.cb,9,none⟩=some (.slice (some ⟨P.lb,0,none⟩) m.locals.toNat m.locals.toNat)∧w'.cell? ⟨wr.heap.size,0,none⟩=some (.int .i64 vk)∧w'.cell? ⟨wr.heap.size,1,none⟩=some (.int .i64 vn)) (h:=fun hHeld=>?_)
   refine Drawn.T 0 (some 21) (h:=?_)
   refine Drawn.T 1 (some 22) (h:=?_)
   refine Drawn.T 2 (some 23) (h:=?_)
   refine Drawn.T 3 (some 24) (h:=?_)
   refine Drawn.T 4 (some 25) (h:=?_)
   refine Drawn.T 5 (some 26) (h:=?_)
   refine Drawn.cl 6 (fun K hK=>?_)
   go_simp
   go_at_call 52
   refine (STP.out _ (FB.out.next (Kp.of_below (B:=wr.heap.size) (X:=fun _=>False) (by exact Rd.byB) (Nat.le_refl _)) (fun e=>e)) (by simp;omega)).mono ?_
   rintro e w3 ⟨rfl,B3,K3⟩
   have y9:=K3.cell (c:=P.cb) (o:=9) (v:=.slice (some ⟨P.lb,0,none⟩) m.locals.toNat m.locals.toNat) (by go_simp) hne1
   have y70:=K3.cell (c:=wr.heap.size) (o:=0) (v:=.int .i64 vk) (by go_simp) hwl
   have y71:=K3.cell (c:=wr.heap.size) (o:=1) (v:=.int .i64 vn) (by go_simp) hwl
   have K4:=Lib.hid ((Kp.of_below (w:=wr) (B:=wr.heap.size) (X:=(· = P.lb)) (by exact Rd.byB) (Nat.le_refl _)).trans K3 (fun _ e=>.inl e))
   have B4:=Lib.hid B3
   have l71:=cell_lt y70
   clear K3 B3 y0 y1 c9
   go_wp2_with fail
   refine Drawn.bk hK (hS:=by (try dsimp only);exact ⟨y9,y70,y71⟩) (h:=fun hHeld=>?_)
   clear hK K
   refine wpAnyH_done (by kernel_rfl) ?_ _
   go_wp2_with fail
   go_at_call 53
   refine (slotsP ⟨vk,vn⟩ _).mono ?_
   rintro e w4 ⟨rfl,hb4⟩
   have hb4':Below w3.heap.size w3 w4:=Below.trans (by exact Rd.byB) (hb4.mono Rd.byL)
   have K5:=Lib.hid (K4.out.trans (Kp.of_below (X:=(· = P.lb)) hb4' (Nat.le_refl _)) (fun _ e=>.inl e))
   have B5:=Lib.hid (B4.out.next (Kp.of_below (X:=fun _=>False) hb4' (Nat.le_refl _)) (fun e=>e))
   go_wp2_with fail
   go_roundw
   case rel =>
    refine ⟨n+1,by go_num,?_,hlt,Lib.hid (KL.out.trans K5.out (fun _ e=>.inl e)),?_⟩
    ·rw [hsum.out]
     have hfi:=HFIT.out
     have h2:wrap64 ((size (args.take n):Int)+(width ⟨vk,vn⟩:Nat))=((size (args.take n)+width ⟨vk,vn⟩:Nat):Int):=by rw [← Int.natCast_add];exact wrap64_id (by unfold Ok;omega)
     first | (simp only [Num.wrap_i64];rw [h2]) | rw [h2]
    ·rw [hstep.out]
     exact Lib.hid (SL.out.newLoc (by simp [store_len]) K5.out B5.out)
   case measure=>first | (simp [intOf];done) | (simp [intOf];omega)
  ·obtain rfl:n=args.length:=by omega
   rw [List.take_length] at SL
   have hn1:¬ (args.length:Int) < args.length:=by omega
   have hwl:w.heap.size≠P.lb:=by omega
   have k0:=KL.out.frz d0 HW0 hwl
   have k1:=KL.out.frz d1 HW0 hwl
   have k2:=KL.out.frz d2 HW0 hwl
   have j0:=KL.out.cell e0 hwl
   have j1:=KL.out.cell e1 hwl
   have j2:=KL.out.cell e2 hwl
   have hbf:Below w.heap.size w wr:=HBW.out.trans (KL.out.below (by omega) (fun k e=>by omega))
   have hwr:=cell_lt j0
   have nfr:¬ fo E L P (.slice none 0 0) w.heap.size:=fun hk=>by
    rcases hk with q | q | q | q
    ·have:=own_lo HH.out q;omega
    ·omega
    ·omega
    ·simp [Value.ownBlock] at q
   have SF:=SL
   clear SL d0 d1 d2 e0 e1 e2
   go_wp2_with fail
   refine bodyPost_ret (v:=frV P.cb) (by unfold frV;simp [results,Tryz.results51,go_sem] <;> go_simp) rfl ?_
   refine ⟨P,rfl,by exact Rd.byB,?_,by omega,by omega⟩
   exact ((SF.out.res (by omega) nfr _ _).res (by omega) nfr _ _).res (by omega) nfr _ _
end
end Hpw
namespace Hpw
open Num Rd D Run Mem HierW
def TryR2 (E:Ev) (L:Lay) (P:PS) (m:Me) (d:Nat) (vs:Value) (fr:Sf) (b12 b13:Nat) (w0:World) (a:Out Sf) (e:Ending) (w':World):Prop:=match a with
 | .go fr' h=>e=.returned (.tuple #[.int .i64 0,.bool false])∧w'.cell? ⟨b12,0,none⟩=some (.bool false)∧LftF E L P m d vs w0 w' h fr'
 | .back v h=>e=.returned (.tuple #[.int .i64 0,.bool false])∧w'.cell? ⟨b12,0,none⟩=some (.bool true)∧w'.cell? ⟨b13,0,none⟩=some (.int .i64 v.kind)∧w'.cell? ⟨b13,1,none⟩=some (.int .i64 v.n)∧∃ st,LftF E L P m d vs w0 w' h ⟨fr.loc,st,fr.at_⟩
 | .thrown o h=>e=.returned (.tuple #[.int .i64 o,.bool true])∧w'.cell? ⟨b12,0,none⟩=some (.bool false)∧∃ st L1 vs1,Gr E L P vs w0 L1 vs1 w'∧ST E w' L1 P m d h ⟨fr.loc,st,fr.at_⟩ vs1∧¬ fo E L1 P vs1 b12
 | .stop c h=>Pan (stopV c) e∧LftS E L P d vs w0 w' h
section
variable {E:Ev}{w w' w0 w1 w2:World}{L L' L1:Lay}{h h' h1 h2:Hp}{d:Nat}{P:PS}{m:Me}{fr fr' fr1:Sf}{vs vs1:Value}
theorem LftF.upon2 (S:ST E w0 L P m d h' fr' vs) (hb:Below w0.heap.size w0 w) (A:LftF E L P m d vs w w1 h fr){X:Nat→Prop}(K:Kp X w1 w2) (hX:∀ k,X k→w0.heap.size≤k∧k < w.heap.size):∃ L1 vs1,Gr E L P vs w0 L1 vs1 w2∧ST E w2 L1 P m d h fr vs1∧∀ k,w0.heap.size≤k→k < w.heap.size→¬ fo E L1 P vs1 k:=by
 obtain ⟨L1,vs1,G,S1⟩:=A.opn
 have hs:=hb.size
 have hEB:=S.base
 have lo:∀ k,fo E L P vs k→k < w0.heap.size:=fun k hk=>(S.fo_lo hk).2
 have nf:∀ k,X k→¬ fo E L1 P vs1 k:=fun k hk hf=>by
  obtain ⟨x1,x2⟩:=hX k hk
  rcases G.fo hf with q | q
  ·have:=lo k q;omega
  ·omega
 have K0:Kp (fo E L P vs) w0 w2:=((Kp.of_below (X:=fo E L P vs) hb (Nat.le_refl _)).trans G.kp (fun y hy=>.inl hy)).trans K (fun y hy=>.inr (hX y hy).1)
 refine ⟨L1,vs1,⟨K0,fun k hk=>(G.ow k hk).imp id (fun q=>by omega),fun k hk=>(G.st k hk).imp id (fun q=>by omega)⟩,?_,fun k l1 l2 hf=>by
  rcases G.fo hf with q | q
  ·have:=lo k q;omega
  ·omega⟩
 have no:∀ k,fo E L1 P vs1 k→¬ X k:=fun k hk hx=>nf k hx hk
 exact ⟨S1.H.keep K (fun k hk=>⟨by have:=(hX k hk).1;omega,fun q=>nf k hk (.inl q)⟩),S1.M.mono (K.below S1.base (fun k hk=>by have:=(hX k hk).1;omega)),S1.blk.next K (no _ (.inr (.inl rfl))),S1.loc.next K (no _ (.inr (.inr (.inl rfl)))),Nat.lt_of_lt_of_le S1.lbw K.size,row_keep S1.stk K (fun g hg=>no g (.inr (.inr (.inr hg)))),S1.lo,S1.far,S1.ne⟩
set_option maxRecDepth 100000 in
theorem tryP (S:ST E w0 L P m d h fr vs) (hb:Below w0.heap.size w0 w){b11 b12 b13:Nat}(h12:w0.heap.size≤b12∧b12 < w.heap.size) (h13:w0.heap.size≤b13∧b13 < w.heap.size) (hne:b12≠b13)
  (c11:w.cell? ⟨b11,0,none⟩=some (.func (.func 54) #[.pointer (some ⟨P.cb,0,none⟩)] #[])) (c12:w.cell? ⟨b12,0,none⟩=some (.bool false)) (f12:w.frozen? ⟨b12,0,none⟩=false) (c130:w.cell? ⟨b13,0,none⟩=some (.int .i64 0)) (c131:w.cell? ⟨b13,1,none⟩=some (.int .i64 0)) (f130:w.frozen? ⟨b13,0,none⟩=false) (f131:w.frozen? ⟨b13,1,none⟩=false)
  (a:Out Sf) (hdo:∀ W,Below w.heap.size w W→Calls Tryz.prog 54 #[.pointer (some ⟨P.cb,0,none⟩)] W (DoR E L P m d vs fr W a)) :
  Calls Tryz.prog 100 #[.func (.func 101) #[] #[.pointer (some ⟨b11,0,none⟩),.pointer (some ⟨b13,0,none⟩),.pointer (some ⟨b12,0,none⟩)]] w (TryR2 E L P m d vs fr b12 b13 w0 a):=by
 have hmf:∀ (fn:Fn) (first cap:Array Value) (w:World),(Instr.makeFunc fn first cap).run Tryz.prog w=.ok (.func fn first cap) w:=fun _ _ _ _=>rfl
 have HS:=Lib.hid S
 have HB:=Lib.hid hb
 have hbs:=hb.size
 have lo:∀ k,fo E L P vs k→k < w0.heap.size:=fun k hk=>(S.fo_lo hk).2
 have n12:¬ fo E L P vs b12:=fun hk=>by have:=lo _ hk;omega
 have n13:¬ fo E L P vs b13:=fun hk=>by have:=lo _ hk;omega
 have nr:¬ fo E L P vs w.heap.size:=fun hk=>by have:=lo _ hk;omega
 have nr2:¬ fo E L P vs (w.heap.size+1):=fun hk=>by have:=lo _ hk;omega
 have h12b:=h12.2
 have h13b:=h13.2
 have l11:=cell_lt c11
 have hDo:=Lib.hid (hdo ((w.alloc (.cells #[.int .i64 0] 2)).alloc (.cells #[.bool false] 4)) (by exact Rd.byB))
 have hBT:=Lib.hid (hb.trans (Below.mono (B:=w.heap.size) (show Below w.heap.size w ((w.alloc (.cells #[.int .i64 0] 2)).alloc (.cells #[.bool false] 4)) from Rd.byB) hbs))
 clear S hb lo hdo
 go_enter_defers Tryz.func100,Tryz.ntmps100
 go_wp2_with fail
 refine (cloP n12 n13 (by simp;omega) (by simp;omega) hne (by go_simp) (by go_simp) (by go_simp) (by go_simp) (by go_simp) (by go_simp) (by go_simp) a hDo.out).mono ?_
 rintro e w2 R
 cases a with
 | go fr' h' =>
  obtain ⟨rfl,y12,wd,A,K⟩:=R
  have x0:=A.box (b:=w.heap.size) (o:=0) (v:=.int .i64 0) (by go_simp) nr
  have x1:=A.boxf (b:=w.heap.size) (o:=0) (x:=false) (by go_simp) (by simp;try omega) nr
  have x2:=A.box (b:=w.heap.size+1) (o:=0) (v:=.bool false) (by go_simp) nr2
  have x3:=A.boxf (b:=w.heap.size+1) (o:=0) (x:=false) (by go_simp) (by simp) nr2
  have z0:=K.cell x0 (by omega)
  have z1:=K.frz x1 (cell_lt x0) (by omega)
  have z2:=K.cell x2 (by omega)
  have z3:=K.frz x3 (cell_lt x2) (by omega)
  clear x0 x1 x2 x3
  go_wp2_with fail
  refine leaves_cons (f:=153) (args:=#[.pointer (some ⟨w.heap.size,0,none⟩),.pointer (some ⟨w.heap.size+1,0,none⟩)]) (by simp) (by simp [go_sem]) ?_
  refine (tryIdle _ _ _).mono ?_
  rintro e u' w'' ⟨rfl,rfl,rfl⟩
  have l0:=cell_lt z0
  have l2:=cell_lt z2
  simp [Leaves,settle,results,Tryz.results100,go_sem,z0,z2,l0,l2]
  refine ⟨rfl,by go_simp,LftF.upon HS.out hBT.out A (X:=fun k=>k=b12∨k=b13∨k=w.heap.size∨k=w.heap.size+1) (((K.mono (fun k hk=>hk.elim .inl (fun e=>.inr (.inl e)))).setCell (p:=⟨w.heap.size,0,none⟩) (.inl (.inr (.inr (.inl rfl)))) _).setCell (p:=⟨w.heap.size+1,0,none⟩) (.inl (.inr (.inr (.inr rfl)))) _) (fun k hk=>by simp;omega)⟩
 | back v h' =>
  obtain ⟨rfl,y12,y130,y131,wd,st,A,K⟩:=R
  have x0:=A.box (b:=w.heap.size) (o:=0) (v:=.int .i64 0) (by go_simp) nr
  have x1:=A.boxf (b:=w.heap.size) (o:=0) (x:=false) (by go_simp) (by simp;try omega) nr
  have x2:=A.box (b:=w.heap.size+1) (o:=0) (v:=.bool false) (by go_simp) nr2
  have x3:=A.boxf (b:=w.heap.size+1) (o:=0) (x:=false) (by go_simp) (by simp) nr2
  have z0:=K.cell x0 (by omega)
  have z1:=K.frz x1 (cell_lt x0) (by omega)
  have z2:=K.cell x2 (by omega)
  have z3:=K.frz x3 (cell_lt x2) (by omega)
  clear x0 x1 x2 x3
  go_wp2_with fail
  refine leaves_cons (f:=153) (args:=#[.pointer (some ⟨w.heap.size,0,none⟩),.pointer (some ⟨w.heap.size+1,0,none⟩)]) (by simp) (by simp [go_sem]) ?_
  refine (tryIdle _ _ _).mono ?_
  rintro e u' w'' ⟨rfl,rfl,rfl⟩
  have l0:=cell_lt z0
  have l2:=cell_lt z2
  simp [Leaves,settle,results,Tryz.results100,go_sem,z0,z2,l0,l2]
  refine ⟨rfl,by go_simp,by go_simp,by go_simp,st,LftF.upon HS.out hBT.out A (X:=fun k=>k=b12∨k=b13∨k=w.heap.size∨k=w.heap.size+1) (((K.mono (fun k hk=>hk.elim .inl (fun e=>.inr (.inl e)))).setCell (p:=⟨w.heap.size,0,none⟩) (.inl (.inr (.inr (.inl rfl)))) _).setCell (p:=⟨w.heap.size+1,0,none⟩) (.inl (.inr (.inr (.inr rfl)))) _) (fun k hk=>by simp;omega)⟩
 | thrown o h' =>
  obtain ⟨⟨older,hol,rfl⟩,y12,st,A⟩:=R
  have x0:=A.box (b:=w.heap.size) (o:=0) (v:=.int .i64 0) (by go_simp) nr
  have x1:=A.boxf (b:=w.heap.size) (o:=0) (x:=false) (by go_simp) (by simp;try omega) nr
  have x2:=A.box (b:=w.heap.size+1) (o:=0) (v:=.bool false) (by go_simp) nr2
  have x3:=A.boxf (b:=w.heap.size+1) (o:=0) (x:=false) (by go_simp) (by simp) nr2
  have hdw:=drop_all older hol
  go_wp2_with fail
  refine leaves_cons (f:=153) (args:=#[.pointer (some ⟨w.heap.size,0,none⟩),.pointer (some ⟨w.heap.size+1,0,none⟩)]) (by simp) (by simp [go_sem]) ?_
  refine (tryThrown w.heap.size (w.heap.size+1) o (by omega) older _ x0 x1 x2 x3).mono ?_
  rintro e u' w'' ⟨rfl,rfl,rfl⟩
  have l0:=cell_lt x0
  have l2:=cell_lt x2
  have l12:=cell_lt y12
  simp [Leaves,settle,hdw,results,Tryz.results100,go_sem,x0,x2,l0,l2]
  obtain ⟨L9,v9,G9,S9,N9⟩:=LftF.upon2 HS.out hBT.out A (X:=fun k=>k=w.heap.size∨k=w.heap.size+1) ((((Kp.refl (fun k=>k=w.heap.size∨k=w.heap.size+1) w2).setCell (p:=⟨w.heap.size,0,none⟩) (.inl (.inl rfl)) (.int .i64 o)).setCell (p:=⟨w.heap.size+1,0,none⟩) (.inl (.inr rfl)) (.bool true)).alloc (.cells #[.int .i64 o] 90)) (fun k hk=>by simp;omega)
  exact ⟨rfl,by go_simp,st,L9,v9,G9,S9,N9 b12 h12.1 (by simp;omega)⟩
 | stop c h' =>
  obtain ⟨⟨older,hol,rfl⟩,A⟩:=R
  go_wp2_with fail
  refine leaves_cons (f:=153) (args:=#[.pointer (some ⟨w.heap.size,0,none⟩),.pointer (some ⟨w.heap.size+1,0,none⟩)]) (by simp) (by simp [go_sem]) ?_
  refine (tryStop _ _ c older _).mono ?_
  rintro e u' w'' ⟨rfl,rfl,rfl⟩
  simp only [Leaves,raised]
  refine ⟨⟨{ v:=stopV c,recovered:=true } :: older,fun x hx=>?_,rfl⟩,LftS.upon HS.out hBT.out A (X:=fun _=>False) ((Kp.refl _ w2).alloc _) (fun k hk=>hk.elim)⟩
  rcases List.mem_cons.1 hx with e | e
  ·subst e;rfl
  ·exact hol x e
end
end Hpw
namespace Hpw
open Num Rd D Run Mem HierW
section
variable {E:Ev}{w w' w1 w2:World}{L L' L1:Lay}{h h' h1 h2:Hp}{d:Nat}{P:PS}{m m2:Me}{fr fr' fr1:Sf}{vs vs1:Value}
set_option maxRecDepth 100000 in
theorem invokeP (H:PH E w L h d) (X:Nat→Prop){va:Value}(args:List Vl){vp vc vh:Value}(hVM:VMe w E.B (.agg #[vp,.int .i64 m.ret.kind,.int .i64 m.ret.cls,.int .i64 m.stack,.int .i64 m.locals,.int .i64 m.regs,vc,vh]) m) (ha:VS w X va args) (r:Res Vl)
  (hC:∀ (W:World) (b3 b4 b5:Nat),Below w.heap.size w W→w.heap.size≤b3→w.heap.size≤b4→w.heap.size≤b5→W.cell? ⟨b3,0,none⟩=some (.pointer (some ⟨E.hb,0,none⟩))→W.cell? ⟨b5,0,none⟩=some va →
   Blk W b4 [vp,.int .i64 m.ret.kind,.int .i64 m.ret.cls,.int .i64 m.stack,.int .i64 m.locals,.int .i64 m.regs,vc,vh] →
   Calls Tryz.prog 50 #[.pointer (some ⟨E.hb,0,none⟩),.agg #[vp,.int .i64 m.ret.kind,.int .i64 m.ret.cls,.int .i64 m.stack,.int .i64 m.locals,.int .i64 m.regs,vc,vh],va,.func (.func 51) #[] #[.pointer (some ⟨b3,0,none⟩),.pointer (some ⟨b4,0,none⟩),.pointer (some ⟨b5,0,none⟩)]] W (InvR E L d W r)) :
  Calls Tryz.prog 24 #[.pointer (some ⟨E.hb,0,none⟩),.agg #[vp,.int .i64 m.ret.kind,.int .i64 m.ret.cls,.int .i64 m.stack,.int .i64 m.locals,.int .i64 m.regs,vc,vh],va] w (InvR E L d w r):=by
 have HH:=Lib.hid H
 obtain ⟨vp',vc',vh',hmv',oks,sps,sco,shs⟩:=hVM
 obtain ⟨rfl,rfl,rfl⟩:vp=vp'∧vc=vc'∧vh=vh':=by
  simp at hmv'
  exact ⟨hmv'.1,hmv'.2.1,hmv'.2.2⟩
 obtain ⟨pa,pcap,rfl,p1,p2,_⟩:=id sps
 obtain ⟨ca,ccap,rfl,p3,p4,_⟩:=id sco
 obtain ⟨ha',hcap,rfl,p5,p6,_⟩:=id shs
 obtain ⟨ax,acap,rfl,a1,a2⟩:=ha.len
 have hmf:∀ (fn:Fn) (first cap:Array Value) (w:World),(Instr.makeFunc fn first cap).run Tryz.prog w=.ok (.func fn first cap) w:=fun _ _ _ _=>rfl
 have HC:=Lib.hid hC
 have hold:=Lib.hid (fun (k:Nat) (hk:own E L k)=>(own_lo H hk).2)
 clear H hC ha hmv' sps sco shs
 go_enter Tryz.func24,Tryz.ntmps24
 go_wp2_with fail
 go_at_call 50
 refine (HC.out _ _ _ _ (by exact Rd.byB) (by omega) (by omega) (by omega) (by go_simp) (by go_simp) (blk8 (by go_simp) (by go_simp) (by go_simp) (by go_simp) (by go_simp) (by go_simp) (by go_simp) (by go_simp) (by go_simp) (by go_simp) (by go_simp) (by go_simp) (by go_simp) (by go_simp) (by go_simp) (by go_simp))).mono ?_
 rintro e w2 R
 have nr:¬ own E L (w.heap.size+1+1+1):=fun hk=>by have:=hold.out _ hk;omega
 cases r with
 | thrown o h2 =>
  obtain ⟨⟨older,hol,rfl⟩,A⟩:=R
  refine And.intro rfl ?_
  exact ⟨⟨older,hol,rfl⟩,A.before (by exact Rd.byB)⟩
 | stop c h2 =>
  obtain ⟨⟨older,hol,rfl⟩,A⟩:=R
  refine And.intro rfl ?_
  exact ⟨⟨older,hol,rfl⟩,A.before (by exact Rd.byB)⟩
 | ok v h2 =>
  obtain ⟨vk,vn⟩:=v
  obtain ⟨rfl,A⟩:=R
  have x0:=A.cell (b:=w.heap.size+1+1+1) (o:=0) (v:=.int .i64 0) (by go_simp) nr
  have x1:=A.cell (b:=w.heap.size+1+1+1) (o:=1) (v:=.int .i64 0) (by go_simp) nr
  have f0:=A.frz (b:=w.heap.size+1+1+1) (o:=0) (x:=false) (by simp) (by go_simp) nr
  have f1:=A.frz (b:=w.heap.size+1+1+1) (o:=1) (x:=false) (by simp) (by go_simp) nr
  have hlt:=cell_lt x0
  unfold vl
  replace A:=Lib.hid A
  go_wp2_with fail
  refine bodyPost_ret (v:=.agg #[.int .i64 vk,.int .i64 vn]) (by simp [results,Tryz.results24,go_sem] <;> go_simp) rfl ?_
  exact ⟨rfl,A.out.res2 HH.out (by exact Rd.byB) (by omega) (by simp) _ _⟩
end
end Hpw
namespace Hpw
open Num Rd D Run Mem HierW
section
variable {E:Ev}{w w' w0 w1 w2 w6 w9:World}{L L' L1 L4:Lay}{h h' h0 h1 h2:Hp}{d d0 b1:Nat}{P:PS}{m:Me}{fr fr' fr1:Sf}{vs vs1:Value}
theorem Lft.ofS (K:Kp (own E L) w w9) (g1:w.heap.size≤P.cb) (g2:w.heap.size≤P.lb) (A:LftS E L P d (.slice none 0 0) w9 w6 h):Lft E L d w w6 h:=by
 have hs:=K.size
 obtain ⟨L4,K4,N4,H4⟩:=A
 refine ⟨L4,K.trans K4 (fun y hy=>?_),fun k hk=>(N4 k hk).imp id (fun q=>by omega),H4⟩
 rcases hy with e | e | e | e
 ·exact .inl e
 ·subst e;exact .inr g1
 ·subst e;exact .inr g2
 ·cases e
theorem Lft.ofS2 (H:PH E w L h0 d0) (K:Kp (own E L) w w9) (g1:w.heap.size≤P.cb) (g2:w.heap.size≤P.lb) (A:LftS E L P d (.slice none 0 0) w9 w6 h){b:Nat}(h1:w.heap.size≤b) (h2:b < w9.heap.size) (x y:Value):Lft E L d w ((w6.setCell ⟨b,0,none⟩ x).setCell ⟨b,1,none⟩ y) h:=by
 have hs:=K.size
 have hEB:=H.base
 obtain ⟨L4,K4,N4,H4⟩:=A
 have nb:¬ own E L4 b:=fun hk=>by
  rcases N4 b hk with q | q
  ·have:=own_lo H q;omega
  ·omega
 have K3:Kp (fun k=>k=b) w6 ((w6.setCell ⟨b,0,none⟩ x).setCell ⟨b,1,none⟩ y):=((Kp.refl (fun k=>k=b) w6).setCell (p:=⟨b,0,none⟩) (.inl rfl) x).setCell (p:=⟨b,1,none⟩) (.inl rfl) y
 obtain ⟨L5,K5,N5,H5⟩:=Lft.ofS K g1 g2 ⟨L4,K4,N4,H4⟩
 have K6:Kp (own E L) w w6:=K.trans K4 (fun y hy=>by
  rcases hy with e | e | e | e
  ·exact .inl e
  ·subst e;exact .inr g1
  ·subst e;exact .inr g2
  ·cases e)
 exact ⟨L4,(K6.setCell (p:=⟨b,0,none⟩) (.inr h1) x).setCell (p:=⟨b,1,none⟩) (.inr h1) y,fun k hk=>(N4 k hk).imp id (fun q=>by omega),H4.keep K3 (fun k e=>by subst e;exact ⟨by omega,nb⟩)⟩
theorem notFo (H:PH E w L h0 d0) (g1:b1≤P.cb) (g2:b1≤P.lb){b:Nat}(h1:w.heap.size≤b) (h2:b < b1):¬ fo E L P (.slice none 0 0) b:=fun hk=>by
 rcases hk with e | e | e | e
 ·have:=own_lo H e;omega
 ·omega
 ·omega
 ·cases e
end
end Hpw
namespace Run
open D Num
theorem outS_ok {f:Fi}{input:List Int}{fuel g d:Nat}{m:Me}{fr:Sf}{h:Hp}(K:MachOk SM SfB f input fuel) (hm:m∈f.methods) (HO:HpOk f.classes input fuel h) (hf:SfB m h.objs.length fr) :
  (∃ c h',outS SM f input fuel g d m fr h=.stop c h')∨(h.steps < fuel∧OutOk SfB f input fuel m { h with steps:=h.steps+1 } (outS SM f input fuel g d m fr h)):=by
 unfold outS
 by_cases q:fuel≤h.steps
 ·rw [if_pos q];exact .inl ⟨_,_,rfl⟩
 ·rw [if_neg q]
  cases hi:m.code[SM.at_ fr]? with
  | none=>exact .inl ⟨_,_,rfl⟩
  | some i =>
   have HO1:HpOk f.classes input fuel { h with steps:=h.steps+1 }:=⟨HO.many,HO.obs,HO.out,Nat.le_succ_of_le HO.outs,HO.used,by show h.steps+1≤fuel;omega⟩
   have hs:=K.step m hm i (List.mem_of_getElem? hi) fr _ HO1 (by show h.out.length < h.steps+1;have:=HO.outs;omega) hf
   exact .inr ⟨by omega,outA_ok K hm hs⟩
end Run
end Go.Proofs.YtncmhenfgbcihabGreat
