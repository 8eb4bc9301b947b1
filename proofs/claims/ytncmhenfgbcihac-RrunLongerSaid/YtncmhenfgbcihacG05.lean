/- Parts of the proof: Yi, Qg, Yj. -/
import Derived.Test.YtncmhenfgbcihacG04
import Derived.RegionTactic
import Derived.Test.YtncmhenfgbcihacG03
import Derived.ChangeAlike
import Derived.Deep.AppendLies
import Derived.Deep.RegionLaw
import Derived.BigRegion
set_option linter.unusedSimpArgs false
set_option linter.unusedVariables false
set_option maxHeartbeats 8000000
namespace Go.Proofs.Ytncmhenfgbcihac
open Go.RowKit
namespace Hpr
open Num Rd D Run Mem HierW Hpw
def DoR (E:Ev) (L:Lay) (P:PS) (m:Me) (d:Nat) (vs:Value) (fr:Rf) (w:World) (a:Out Rf) (e:Ending) (w':World):Prop:=match a with
 | .go fr' h=>e=.returned (.tuple #[.agg #[.int .i64 0,.int .i64 0],.bool false])∧LftF E L P m d vs w w' h fr'
 | .back v h=>e=.returned (.tuple #[.agg #[.int .i64 v.kind,.int .i64 v.n],.bool true])∧∃ st:Unit,LftF E L P m d vs w w' h (clr fr)
 | .thrown o h=>Pan (thrownV o) e∧∃ st:Unit,LftF E L P m d vs w w' h (clr fr)
 | .stop c h=>Pan (stopV c) e∧LftS E L P d vs w w' h
def CloR (E:Ev) (L:Lay) (P:PS) (m:Me) (d:Nat) (vs:Value) (fr:Rf) (b12 b13:Nat) (w:World) (a:Out Rf) (e:Ending) (w':World):Prop:=match a with
 | .go fr' h=>e=.returned (.tuple #[])∧w'.cell? ⟨b12,0,none⟩=some (.bool false)∧∃ wd,LftF E L P m d vs w wd h fr'∧Kp (fun k=>k=b12∨k=b13) wd w'
 | .back v h=>e=.returned (.tuple #[])∧w'.cell? ⟨b12,0,none⟩=some (.bool true)∧w'.cell? ⟨b13,0,none⟩=some (.int .i64 v.kind)∧w'.cell? ⟨b13,1,none⟩=some (.int .i64 v.n)∧∃ wd,∃ st:Unit,LftF E L P m d vs w wd h (clr fr)∧Kp (fun k=>k=b12∨k=b13) wd w'
 | .thrown o h=>Pan (thrownV o) e∧w'.cell? ⟨b12,0,none⟩=some (.bool false)∧∃ st:Unit,LftF E L P m d vs w w' h (clr fr)
 | .stop c h=>Pan (stopV c) e∧LftS E L P d vs w w' h
def TryR2 (E:Ev) (L:Lay) (P:PS) (m:Me) (d:Nat) (vs:Value) (fr:Rf) (b12 b13:Nat) (w0:World) (a:Out Rf) (e:Ending) (w':World):Prop:=match a with
 | .go fr' h=>e=.returned (.tuple #[.int .i64 0,.bool false])∧w'.cell? ⟨b12,0,none⟩=some (.bool false)∧LftF E L P m d vs w0 w' h fr'
 | .back v h=>e=.returned (.tuple #[.int .i64 0,.bool false])∧w'.cell? ⟨b12,0,none⟩=some (.bool true)∧w'.cell? ⟨b13,0,none⟩=some (.int .i64 v.kind)∧w'.cell? ⟨b13,1,none⟩=some (.int .i64 v.n)∧∃ st:Unit,LftF E L P m d vs w0 w' h (clr fr)
 | .thrown o h=>e=.returned (.tuple #[.int .i64 o,.bool true])∧w'.cell? ⟨b12,0,none⟩=some (.bool false)∧∃ st:Unit,∃ L1 vs1,Gr E L P vs w0 L1 vs1 w'∧ST E w' L1 P m d h (clr fr) vs1∧¬ fo E L1 P vs1 b12
 | .stop c h=>Pan (stopV c) e∧LftS E L P d vs w0 w' h
section
variable {E:Ev}{w w' w0 w1 w2:World}{L L' L1:Lay}{h h' h1 h2:Hp}{d:Nat}{P:PS}{m:Me}{fr fr' fr1:Rf}{vs vs1:Value}
theorem atP (S:ST E w L P m d h fr vs):Calls Try.prog 40 #[.pointer (some ⟨P.cb,0,none⟩)] w fun e w'=>e=.returned (.int .i64 fr.at_)∧w=w':=by
 have c10:=S.c10
 clear S
 go_enter Try.func40,Try.ntmps40
 go_wp2
 go_ret
 exact ⟨rfl,rfl⟩
theorem catchP (S:ST E w L P m d h fr vs) (a o:Nat):Calls Try.prog 41 #[.pointer (some ⟨P.cb,0,none⟩),.int .i64 a,.agg #[.int .i64 3,.int .i64 o]] w fun e w'=>e=.returned (.tuple #[])∧LftF E L P m d vs w w' h ⟨fr.regs,a,fr.given,⟨3,o⟩⟩:=by
 have HS:=Lib.hid S
 have hcb:=S.cbw
 have hcb1:P.cb < w.heap.size+1:=by omega
 have c10:=S.c10
 have c13:=S.c13
 have c14:=S.c14
 have f10:=S.fz 10 (by decide)
 have f13:=S.fz 13 (by decide)
 have f14:=S.fz 14 (by decide)
 clear S
 go_enter Try.func41,Try.ntmps41
 go_wp2
 go_region
 go_wp2
 go_end0
 refine ⟨rfl,HS.out.setF (fr2:=⟨fr.regs,a,fr.given,⟨3,o⟩⟩) ?_ ?_ rfl⟩
 ·exact (((((Kp.refl (fun k=>k=P.cb) w).setCell (p:=⟨P.cb,10,none⟩) (.inl rfl) _).setCell (p:=⟨P.cb,13,none⟩) (.inl rfl) _).setCell (p:=⟨P.cb,14,none⟩) (.inl rfl) _).alloc _).drew
 ·exact ((((HS.out.blk.set 10 (by simp [fcs,mcs]) (.int .i64 a)).set 13 (by simp [fcs,mcs]) (.int .i64 3)).set 14 (by simp [fcs,mcs]) (.int .i64 o)).alloc _).drew
theorem LftF.upon (S:ST E w0 L P m d h' fr' vs) (hb:Below w0.heap.size w0 w) (A:LftF E L P m d vs w w1 h fr){X:Nat→Prop}(K:Kp X w1 w2) (hX:∀ k,X k→w0.heap.size≤k∧k < w.heap.size):LftF E L P m d vs w0 w2 h fr:=by
 obtain ⟨L1,vs1,G,S1⟩:=A.opn
 have hs:=hb.size
 have hEB:=S.base
 have lo:∀ k,fo E L P vs k→k < w0.heap.size:=fun k hk=>(S.fo_lo hk).2
 have nf:∀ k,X k→¬ fo E L1 P vs1 k:=fun k hk hf=>by
  obtain ⟨x1,x2⟩:=hX k hk
  rcases G.fo hf with q | q
  ·have:=lo k q;omega
  ·omega
 have K0:Kp (fo E L P vs) w0 w2:=((Kp.of_below (X:=fo E L P vs) hb (Nat.le_refl _)).trans G.kp (fun y hy=>.inl hy)).trans K (fun y hy=>.inr (hX y hy).1)
 refine ⟨L1,vs1,K0,fun k hk=>(G.ow k hk).imp id (fun q=>by omega),fun k hk=>(G.st k hk).imp id (fun q=>by omega),?_⟩
 have no:∀ k,fo E L1 P vs1 k→¬ X k:=fun k hk hx=>nf k hx hk
 exact ⟨S1.H.keep K (fun k hk=>⟨by have:=(hX k hk).1;omega,fun q=>nf k hk (.inl q)⟩),S1.M.mono (K.below S1.base (fun k hk=>by have:=(hX k hk).1;omega)),S1.blk.next K (no _ (.inr (.inl rfl))),S1.loc.next K (no _ (.inr (.inr (.inl rfl)))),Nat.lt_of_lt_of_le S1.lbw K.size,row_keep S1.stk K (fun g hg=>no g (.inr (.inr (.inr hg)))),S1.lo,S1.far,S1.ne⟩
theorem LftS.upon (S:ST E w0 L P m d h' fr' vs) (hb:Below w0.heap.size w0 w) (A:LftS E L P d vs w w1 h){X:Nat→Prop}(K:Kp X w1 w2) (hX:∀ k,X k→w0.heap.size≤k∧k < w.heap.size):LftS E L P d vs w0 w2 h:=by
 obtain ⟨L1,K1,N1,H1⟩:=A
 have hs:=hb.size
 have hEB:=S.base
 have nf:∀ k,X k→¬ own E L1 k:=fun k hk hf=>by
  obtain ⟨x1,x2⟩:=hX k hk
  rcases N1 k hf with q | q
  ·have:=(own_lo S.H q).2;omega
  ·omega
 exact ⟨L1,((Kp.of_below (X:=fo E L P vs) hb (Nat.le_refl _)).trans K1 (fun y hy=>.inl hy)).trans K (fun y hy=>.inr (hX y hy).1),fun k hk=>(N1 k hk).imp id (fun q=>by omega),H1.keep K (fun k hk=>⟨by have:=(hX k hk).1;omega,nf k hk⟩)⟩
def frV (b:Nat):Value:=.agg #[.func (.func 39) #[.pointer (some ⟨b,0,none⟩)] #[],.func (.func 40) #[.pointer (some ⟨b,0,none⟩)] #[],.func (.func 41) #[.pointer (some ⟨b,0,none⟩)] #[]]
theorem cloP {b11 b12 b13:Nat}(n12:¬ fo E L P vs b12) (n13:¬ fo E L P vs b13) (h12:b12 < w.heap.size) (h13:b13 < w.heap.size) (hne:b12≠b13)
  (c11:w.cell? ⟨b11,0,none⟩=some (.func (.func 39) #[.pointer (some ⟨P.cb,0,none⟩)] #[])) (c12:w.cell? ⟨b12,0,none⟩=some (.bool false)) (f12:w.frozen? ⟨b12,0,none⟩=false) (c130:w.cell? ⟨b13,0,none⟩=some (.int .i64 0)) (c131:w.cell? ⟨b13,1,none⟩=some (.int .i64 0)) (f130:w.frozen? ⟨b13,0,none⟩=false) (f131:w.frozen? ⟨b13,1,none⟩=false)
  (a:Out Rf) (hdo:Calls Try.prog 39 #[.pointer (some ⟨P.cb,0,none⟩)] w (DoR E L P m d vs fr w a)) :
  Calls Try.prog 69 #[.pointer (some ⟨b11,0,none⟩),.pointer (some ⟨b13,0,none⟩),.pointer (some ⟨b12,0,none⟩)] w (CloR E L P m d vs fr b12 b13 w a):=by
 have hne2:=hne.symm
 go_enter Try.func69,Try.ntmps69
 go_wp2_with fail
 refine hdo.mono ?_
 rintro e w2 R
 cases a with
 | go fr' h' =>
  obtain ⟨rfl,A⟩:=R
  have y1:=A.box c12 n12
  have y2:=A.boxf f12 h12 n12
  have y3:=A.box c130 n13
  have y4:=A.box c131 n13
  have y5:=A.boxf f130 h13 n13
  have y6:=A.boxf f131 h13 n13
  replace A:=Lib.hid A
  go_wp2_with fail
  go_end0
  refine ⟨rfl,by go_simp,w2,A.out,(((Kp.refl _ w2).setCell (p:=⟨b13,0,none⟩) (.inl (.inr rfl)) _).setCell (p:=⟨b13,1,none⟩) (.inl (.inr rfl)) _).setCell (p:=⟨b12,0,none⟩) (.inl (.inl rfl)) _⟩
 | back v h' =>
  obtain ⟨vk,vn⟩:=v
  obtain ⟨rfl,st,A⟩:=R
  have y1:=A.box c12 n12
  have y2:=A.boxf f12 h12 n12
  have y3:=A.box c130 n13
  have y4:=A.box c131 n13
  have y5:=A.boxf f130 h13 n13
  have y6:=A.boxf f131 h13 n13
  replace A:=Lib.hid A
  go_wp2_with fail
  go_end0
  refine ⟨rfl,by go_simp,by go_simp,by go_simp,w2,st,A.out,(((Kp.refl _ w2).setCell (p:=⟨b13,0,none⟩) (.inl (.inr rfl)) _).setCell (p:=⟨b13,1,none⟩) (.inl (.inr rfl)) _).setCell (p:=⟨b12,0,none⟩) (.inl (.inl rfl)) _⟩
 | thrown o h' =>
  obtain ⟨⟨older,hol,rfl⟩,st,A⟩:=R
  have y1:=A.box c12 n12
  refine And.intro rfl ?_
  exact ⟨⟨older,hol,rfl⟩,y1,st,A⟩
 | stop c h' =>
  obtain ⟨⟨older,hol,rfl⟩,A⟩:=R
  refine And.intro rfl ?_
  exact ⟨⟨older,hol,rfl⟩,A⟩
theorem LftF.upon2 (S:ST E w0 L P m d h' fr' vs) (hb:Below w0.heap.size w0 w) (A:LftF E L P m d vs w w1 h fr){X:Nat→Prop}(K:Kp X w1 w2) (hX:∀ k,X k→w0.heap.size≤k∧k < w.heap.size):∃ L1 vs1,Gr E L P vs w0 L1 vs1 w2∧ST E w2 L1 P m d h fr vs1∧∀ k,w0.heap.size≤k→k < w.heap.size→¬ fo E L1 P vs1 k:=by
 obtain ⟨L1,vs1,G,S1⟩:=A.opn
 have hs:=hb.size
 have hEB:=S.base
 have lo:∀ k,fo E L P vs k→k < w0.heap.size:=fun k hk=>(S.fo_lo hk).2
 have nf:∀ k,X k→¬ fo E L1 P vs1 k:=fun k hk hf=>by
  obtain ⟨x1,x2⟩:=hX k hk
  rcases G.fo hf with q | q
  ·have:=lo k q;omega
  ·omega
 have K0:Kp (fo E L P vs) w0 w2:=((Kp.of_below (X:=fo E L P vs) hb (Nat.le_refl _)).trans G.kp (fun y hy=>.inl hy)).trans K (fun y hy=>.inr (hX y hy).1)
 refine ⟨L1,vs1,⟨K0,fun k hk=>(G.ow k hk).imp id (fun q=>by omega),fun k hk=>(G.st k hk).imp id (fun q=>by omega)⟩,?_,fun k l1 l2 hf=>by
  rcases G.fo hf with q | q
  ·have:=lo k q;omega
  ·omega⟩
 have no:∀ k,fo E L1 P vs1 k→¬ X k:=fun k hk hx=>nf k hx hk
 exact ⟨S1.H.keep K (fun k hk=>⟨by have:=(hX k hk).1;omega,fun q=>nf k hk (.inl q)⟩),S1.M.mono (K.below S1.base (fun k hk=>by have:=(hX k hk).1;omega)),S1.blk.next K (no _ (.inr (.inl rfl))),S1.loc.next K (no _ (.inr (.inr (.inl rfl)))),Nat.lt_of_lt_of_le S1.lbw K.size,row_keep S1.stk K (fun g hg=>no g (.inr (.inr (.inr hg)))),S1.lo,S1.far,S1.ne⟩
set_option maxRecDepth 100000 in
theorem tryP (S:ST E w0 L P m d h fr vs) (hb:Below w0.heap.size w0 w){b11 b12 b13:Nat}(h12:w0.heap.size≤b12∧b12 < w.heap.size) (h13:w0.heap.size≤b13∧b13 < w.heap.size) (hne:b12≠b13)
  (c11:w.cell? ⟨b11,0,none⟩=some (.func (.func 39) #[.pointer (some ⟨P.cb,0,none⟩)] #[])) (c12:w.cell? ⟨b12,0,none⟩=some (.bool false)) (f12:w.frozen? ⟨b12,0,none⟩=false) (c130:w.cell? ⟨b13,0,none⟩=some (.int .i64 0)) (c131:w.cell? ⟨b13,1,none⟩=some (.int .i64 0)) (f130:w.frozen? ⟨b13,0,none⟩=false) (f131:w.frozen? ⟨b13,1,none⟩=false)
  (a:Out Rf) (hdo:∀ W,Below w.heap.size w W→Calls Try.prog 39 #[.pointer (some ⟨P.cb,0,none⟩)] W (DoR E L P m d vs fr W a)) :
  Calls Try.prog 68 #[.func (.func 69) #[] #[.pointer (some ⟨b11,0,none⟩),.pointer (some ⟨b13,0,none⟩),.pointer (some ⟨b12,0,none⟩)]] w (TryR2 E L P m d vs fr b12 b13 w0 a):=by
 have hmf:∀ (fn:Fn) (first cap:Array Value) (w:World),(Instr.makeFunc fn first cap).run Try.prog w=.ok (.func fn first cap) w:=fun _ _ _ _=>rfl
 have HS:=Lib.hid S
 have HB:=Lib.hid hb
 have hbs:=hb.size
 have lo:∀ k,fo E L P vs k→k < w0.heap.size:=fun k hk=>(S.fo_lo hk).2
 have n12:¬ fo E L P vs b12:=fun hk=>by have:=lo _ hk;omega
 have n13:¬ fo E L P vs b13:=fun hk=>by have:=lo _ hk;omega
 have nr:¬ fo E L P vs w.heap.size:=fun hk=>by have:=lo _ hk;omega
 have nr2:¬ fo E L P vs (w.heap.size+1):=fun hk=>by have:=lo _ hk;omega
 have h12b:=h12.2
 have h13b:=h13.2
 have l11:=cell_lt c11
 have hDo:=Lib.hid (hdo ((w.alloc (.cells #[.int .i64 0] 2)).alloc (.cells #[.bool false] 4)) (by exact Rd.byB))
 have hBT:=Lib.hid (hb.trans (Below.mono (B:=w.heap.size) (show Below w.heap.size w ((w.alloc (.cells #[.int .i64 0] 2)).alloc (.cells #[.bool false] 4)) from Rd.byB) hbs))
 clear S hb lo hdo
 go_enter_defers Try.func68,Try.ntmps68
 go_wp2_with fail
 refine (cloP n12 n13 (by simp;omega) (by simp;omega) hne (by go_simp) (by go_simp) (by go_simp) (by go_simp) (by go_simp) (by go_simp) (by go_simp) a hDo.out).mono ?_
 rintro e w2 R
 cases a with
 | go fr' h' =>
  obtain ⟨rfl,y12,wd,A,K⟩:=R
  have x0:=A.box (b:=w.heap.size) (o:=0) (v:=.int .i64 0) (by go_simp) nr
  have x1:=A.boxf (b:=w.heap.size) (o:=0) (x:=false) (by go_simp) (by simp;try omega) nr
  have x2:=A.box (b:=w.heap.size+1) (o:=0) (v:=.bool false) (by go_simp) nr2
  have x3:=A.boxf (b:=w.heap.size+1) (o:=0) (x:=false) (by go_simp) (by simp) nr2
  have z0:=K.cell x0 (by omega)
  have z1:=K.frz x1 (cell_lt x0) (by omega)
  have z2:=K.cell x2 (by omega)
  have z3:=K.frz x3 (cell_lt x2) (by omega)
  clear x0 x1 x2 x3
  go_wp2_with fail
  refine leaves_cons (f:=102) (args:=#[.pointer (some ⟨w.heap.size,0,none⟩),.pointer (some ⟨w.heap.size+1,0,none⟩)]) (by simp) (by simp [go_sem]) ?_
  refine (tryIdle _ _ _).mono ?_
  rintro e u' w'' ⟨rfl,rfl,rfl⟩
  have l0:=cell_lt z0
  have l2:=cell_lt z2
  simp [Leaves,settle,results,Try.results68,go_sem,z0,z2,l0,l2]
  refine ⟨rfl,by go_simp,LftF.upon HS.out hBT.out A (X:=fun k=>k=b12∨k=b13∨k=w.heap.size∨k=w.heap.size+1) (((K.mono (fun k hk=>hk.elim .inl (fun e=>.inr (.inl e)))).setCell (p:=⟨w.heap.size,0,none⟩) (.inl (.inr (.inr (.inl rfl)))) _).setCell (p:=⟨w.heap.size+1,0,none⟩) (.inl (.inr (.inr (.inr rfl)))) _) (fun k hk=>by simp;omega)⟩
 | back v h' =>
  obtain ⟨rfl,y12,y130,y131,wd,st,A,K⟩:=R
  have x0:=A.box (b:=w.heap.size) (o:=0) (v:=.int .i64 0) (by go_simp) nr
  have x1:=A.boxf (b:=w.heap.size) (o:=0) (x:=false) (by go_simp) (by simp;try omega) nr
  have x2:=A.box (b:=w.heap.size+1) (o:=0) (v:=.bool false) (by go_simp) nr2
  have x3:=A.boxf (b:=w.heap.size+1) (o:=0) (x:=false) (by go_simp) (by simp) nr2
  have z0:=K.cell x0 (by omega)
  have z1:=K.frz x1 (cell_lt x0) (by omega)
  have z2:=K.cell x2 (by omega)
  have z3:=K.frz x3 (cell_lt x2) (by omega)
  clear x0 x1 x2 x3
  go_wp2_with fail
  refine leaves_cons (f:=102) (args:=#[.pointer (some ⟨w.heap.size,0,none⟩),.pointer (some ⟨w.heap.size+1,0,none⟩)]) (by simp) (by simp [go_sem]) ?_
  refine (tryIdle _ _ _).mono ?_
  rintro e u' w'' ⟨rfl,rfl,rfl⟩
  have l0:=cell_lt z0
  have l2:=cell_lt z2
  simp [Leaves,settle,results,Try.results68,go_sem,z0,z2,l0,l2]
  refine ⟨rfl,by go_simp,by go_simp,by go_simp,st,LftF.upon HS.out hBT.out A (X:=fun k=>k=b12∨k=b13∨k=w.heap.size∨k=w.heap.size+1) (((K.mono (fun k hk=>hk.elim .inl (fun e=>.inr (.inl e)))).setCell (p:=⟨w.heap.size,0,none⟩) (.inl (.inr (.inr (.inl rfl)))) _).setCell (p:=⟨w.heap.size+1,0,none⟩) (.inl (.inr (.inr (.inr rfl)))) _) (fun k hk=>by simp;omega)⟩
 | thrown o h' =>
  obtain ⟨⟨older,hol,rfl⟩,y12,st,A⟩:=R
  have x0:=A.box (b:=w.heap.size) (o:=0) (v:=.int .i64 0) (by go_simp) nr
  have x1:=A.boxf (b:=w.heap.size) (o:=0) (x:=false) (by go_simp) (by simp;try omega) nr
  have x2:=A.box (b:=w.heap.size+1) (o:=0) (v:=.bool false) (by go_simp) nr2
  have x3:=A.boxf (b:=w.heap.size+1) (o:=0) (x:=false) (by go_simp) (by simp) nr2
  have hdw:=drop_all older hol
  go_wp2_with fail
  refine leaves_cons (f:=102) (args:=#[.pointer (some ⟨w.heap.size,0,none⟩),.pointer (some ⟨w.heap.size+1,0,none⟩)]) (by simp) (by simp [go_sem]) ?_
  refine (tryThrown w.heap.size (w.heap.size+1) o (by omega) older _ x0 x1 x2 x3).mono ?_
  rintro e u' w'' ⟨rfl,rfl,rfl⟩
  have l0:=cell_lt x0
  have l2:=cell_lt x2
  have l12:=cell_lt y12
  simp [Leaves,settle,hdw,results,Try.results68,go_sem,x0,x2,l0,l2]
  obtain ⟨L9,v9,G9,S9,N9⟩:=LftF.upon2 HS.out hBT.out A (X:=fun k=>k=w.heap.size∨k=w.heap.size+1) ((((Kp.refl (fun k=>k=w.heap.size∨k=w.heap.size+1) w2).setCell (p:=⟨w.heap.size,0,none⟩) (.inl (.inl rfl)) (.int .i64 o)).setCell (p:=⟨w.heap.size+1,0,none⟩) (.inl (.inr rfl)) (.bool true)).alloc (.cells #[.int .i64 o] 84)) (fun k hk=>by simp;omega)
  exact ⟨rfl,by go_simp,st,L9,v9,G9,S9,N9 b12 h12.1 (by simp;omega)⟩
 | stop c h' =>
  obtain ⟨⟨older,hol,rfl⟩,A⟩:=R
  go_wp2_with fail
  refine leaves_cons (f:=102) (args:=#[.pointer (some ⟨w.heap.size,0,none⟩),.pointer (some ⟨w.heap.size+1,0,none⟩)]) (by simp) (by simp [go_sem]) ?_
  refine (tryStop _ _ c older _).mono ?_
  rintro e u' w'' ⟨rfl,rfl,rfl⟩
  simp only [Leaves,raised]
  refine ⟨⟨{ v:=stopV c,recovered:=true } :: older,fun x hx=>?_,rfl⟩,LftS.upon HS.out hBT.out A (X:=fun _=>False) ((Kp.refl _ w2).alloc _) (fun k hk=>hk.elim)⟩
  rcases List.mem_cons.1 hx with e | e
  ·subst e;rfl
  ·exact hol x e
end
end Hpr
namespace Hpw
open Num Rd D Run Mem HierW
def L0:Lay:=⟨.slice none 0 0,.slice none 0 0,[]⟩
def h0:Hp:=⟨[],[],0,0⟩
section
variable {w:World}{B:Nat}{f:Fi}
theorem phNew {w1:World}{B:Nat}{f:Fi}{input:List Int}{vc vm vi:Value}(hc:Sl 2 ECls w1 B vc f.classes) (hm:Sl 8 EMe w1 B vm f.methods) (hi:Sl 1 EInt w1 B vi input) (hB:B≤w1.heap.size) (fuel:Nat) (T:TypeId) :
  PH ⟨f,input,fuel,w1.heap.size,B,vc,vm,vi⟩ (w1.alloc (.cells #[vc,vm,.int .i64 0,.int .i64 0,.int .i64 0,.slice none 0 0,.int .i64 0,.int .i64 0,.slice none 0 0,vi,.int .i64 0,.int .i64 fuel] T)) L0 h0 0:=by
 have hb:Below B w1 (w1.alloc (.cells #[vc,vm,.int .i64 0,.int .i64 0,.int .i64 0,.slice none 0 0,.int .i64 0,.int .i64 0,.slice none 0 0,vi,.int .i64 0,.int .i64 fuel] T)):=(Below.refl B w1).alloc hB _
 exact ⟨Blk.made w1 [vc,vm,.int .i64 0,.int .i64 0,.int .i64 0,.slice none 0 0,.int .i64 0,.int .i64 0,.slice none 0 0,vi,.int .i64 0,.int .i64 fuel] T,hc.mono mCls hb (Nat.le_refl _),hm.mono mMe hb (Nat.le_refl _),hi.mono mInt hb (Nat.le_refl _),World.ownsRow_nil ..,World.ownsRow_nil ..,rfl,fun i hi=>absurd hi (by simp [L0]),⟨hB,by simp,by simp [L0]⟩,by simp [L0,Value.ownBlock],by simp [L0]⟩
def BeginE (w:World) (c:Int) (e:Ending) (w':World):Prop:=e=.returned (.tuple #[.pointer none,.slice none 0 0,.int .i64 c])∧Below w.heap.size w w'
set_option maxRecDepth 100000 in
theorem begin1 {vf va vi:Value}(Hf:VFi w B vf f) (entry fuel:Int) (hq:entry < 0∨(f.methods.length:Int)≤entry∨fuel < 0∨60000 < fuel):Calls Try.prog 15 #[vf,.int .i64 entry,va,vi,.int .i64 fuel] w (BeginE w 4):=by
 obtain ⟨vc,vm,rfl,hc,hm⟩:=Hf
 obtain ⟨a,cap,rfl,k1,k2,_⟩:=hc
 obtain ⟨ma,mcap,rfl,k3,k4,_⟩:=hm
 by_cases q1:entry < 0
 ·clear hq
  go_enter Try.func15,Try.ntmps15
  go_wp2
  go_ret3
  exact ⟨rfl,by exact Rd.byB⟩
 by_cases q2:(f.methods.length:Int)≤entry
 ·clear hq
  go_enter Try.func15,Try.ntmps15
  go_wp2
  go_ret3
  exact ⟨rfl,by exact Rd.byB⟩
 by_cases q3:fuel < 0
 ·clear hq
  go_enter Try.func15,Try.ntmps15
  go_wp2
  go_ret3
  exact ⟨rfl,by exact Rd.byB⟩
 have q4:60000 < fuel:=by omega
 clear hq
 go_enter Try.func15,Try.ntmps15
 go_wp2
 go_ret3
 exact ⟨rfl,by exact Rd.byB⟩
set_option maxRecDepth 100000 in
theorem begin3 {vf va vi:Value}(Hf:VFi w B vf f) (entry fuel:Int) (q1:¬ entry < 0) (q2:¬ (f.methods.length:Int)≤entry) (q3:¬ fuel < 0) (q4:¬ 60000 < fuel){input:List Int}(hi:Sl 1 EInt w B vi input) (h3:1000 < input.length):Calls Try.prog 15 #[vf,.int .i64 entry,va,vi,.int .i64 fuel] w (BeginE w 1):=by
 obtain ⟨vc,vm,rfl,hc,hm⟩:=Hf
 obtain ⟨a,cap,rfl,k1,k2,_⟩:=hc
 obtain ⟨ma,mcap,rfl,k3,k4,_⟩:=hm
 obtain ⟨ia,icap,rfl,k5,k6,_⟩:=hi
 have h3':(1000:Int) < input.length:=by omega
 go_enter Try.func15,Try.ntmps15
 go_wp2
 go_ret3
 exact ⟨rfl,by exact Rd.byB⟩
set_option maxRecDepth 100000 in
theorem begin4 {vf va vi:Value}(Hf:VFi w B vf f) (hB:B≤w.heap.size) (k:Nat) (hk:k < f.methods.length) (fuel:Int) (q3:¬ fuel < 0) (q4:¬ 60000 < fuel){input args:List Int}(hi:Sl 1 EInt w B vi input) (h3:input.length≤1000) (ha:Sl 1 EInt w B va args) (h4:args.length≠(f.methods[k]).params.length):Calls Try.prog 15 #[vf,.int .i64 k,va,vi,.int .i64 fuel] w (BeginE w 3):=by
 obtain ⟨vc,vm,rfl,hc,hm⟩:=Hf
 obtain ⟨a,cap,rfl,k1,k2,_⟩:=hc
 obtain ⟨ma,mcap,rfl,k3,k4,hel⟩:=hm
 obtain ⟨ia,icap,rfl,k5,k6,_⟩:=hi
 obtain ⟨aa,acap,rfl,k7,k8,_⟩:=ha
 obtain ⟨mb,mo,rfl,hmb,vp,vco,vh,m0,m1,m2,m3,m4,m5,m6,m7,mok,hp,hco,hh⟩:=hel k hk
 obtain ⟨pa,pcap,rfl,k9,k10,_⟩:=hp
 have h3':¬ (1000:Int) < input.length:=by omega
 have hk':(k:Int) < f.methods.length:=by omega
 have q1:¬ (k:Int) < 0:=by omega
 have q2:¬ (f.methods.length:Int)≤k:=by omega
 have l1:mb < w.heap.size:=by omega
 have l2:mb < w.heap.size+1:=by omega
 have h4':((args.length:Int) != (f.methods[k].params.length:Int))=true:=by simp;omega
 have h4'':¬ (args.length:Int)=(f.methods[k].params.length:Int):=by omega
 clear hel
 go_enter Try.func15,Try.ntmps15
 go_wp2
 go_ret3
 exact ⟨rfl,by exact Rd.byB⟩
def argsTo (m:Me) (args:List Int) (n:Nat):List Vl:=(List.zipWith argOf m.params args).take n
def BegR (w:World) (f:Fi) (m:Me) (args input:List Int) (fuel:Int) (vc vm vi:Value) (e:Ending) (w':World):Prop :=
 if m.params.any (fun t=>decide (t.kind=3))=true then BeginE w 3 e w'
 else ∃ (hb:Nat) (vl:Value),e=.returned (.tuple #[.pointer (some ⟨hb,0,none⟩),vl,.int .i64 0])∧PH ⟨f,input,fuel.toNat,hb,w.heap.size,vc,vm,vi⟩ w' L0 h0 0∧VS w' (fun k=>k=hb) vl (List.zipWith argOf m.params args)∧Below w.heap.size w w'
theorem grow_kp {B n size:Nat}{T:TypeId}{v:Value}{xs:List Value}{wr W w2:World}(hW:Below wr.heap.size wr W) (hown:wr.ownsRow B T size v n xs) (hg:W.grownBy w2 v.ownBlock):Kp (fun k=>B≤k) wr w2 :=
 (kpB hW).trans (Kp.of_grown (X:=fun k=>B≤k) hg (fun k e=>(World.ownsRow.lt hown k e).1)) (fun _ h=>.inl h)
theorem vsRow {base:Nat}{T:TypeId}{X:Nat→Prop}{v:Value}{l:List Vl}(H:w.ownsRow base T 2 v l.length (vcells l)) (hX:∀ k,X k→k < base):VS w X v l:=by
 by_cases h0:0 < l.length
 ·obtain ⟨g,cap,hv,c1,c2,c3,c4⟩:=row_form H h0
  rw [hv] at H ⊢
  refine ⟨_,cap,rfl,c1,c2,fun i hi=>⟨g,0,rfl,fun hx=>by have:=hX g hx;omega,?_,?_⟩⟩
  ·have:=row_cell H (vcells_get l i hi).1
   rw [Nat.zero_add,this,List.getD_eq_getElem?_getD,List.getElem?_eq_getElem hi];rfl
  ·have:=row_cell H (vcells_get l i hi).2
   rw [Nat.zero_add,this,List.getD_eq_getElem?_getD,List.getElem?_eq_getElem hi];rfl
 ·have hl:l=[]:=List.eq_nil_of_length_eq_zero (by omega)
  subst hl
  obtain ⟨a,cap,hv⟩:=row_any H
  rcases H.2 with ⟨hn,_⟩ | ⟨g,cap',cur,hv',_,_,_,hm,_⟩
  ·rw [hn];exact VS.nil _ _
  ·rw [hv'];exact VS.zero (by unfold maxLen at hm;exact hm)
theorem argsTo_succ {m:Me}{args:List Int}{n:Nat}(h1:n < m.params.length) (h2:n < args.length):argsTo m args (n+1)=argsTo m args n++[argOf m.params[n] args[n]]:=by
 unfold argsTo
 rw [List.take_succ_eq_append_getElem (by simp;omega)]
 simp
set_option maxRecDepth 100000 in
theorem begin5 {vc vm va vi:Value}(hc:Sl 2 ECls w B vc f.classes) (hm:Sl 8 EMe w B vm f.methods) (hB:B≤w.heap.size) (k:Nat) (hk:k < f.methods.length) (fuel:Int) (q3':¬ fuel < 0) (q4:¬ 60000 < fuel){input args:List Int}(hi:Sl 1 EInt w B vi input) (h3:input.length≤1000) (ha:Sl 1 EInt w B va args) (h4:args.length=(f.methods[k]).params.length) (h5:(f.methods[k]).params.length≤4) (hty:∀ t∈(f.methods[k]).params,t.kind=1∨t.kind=2∨t.kind=3):Calls Try.prog 15 #[.agg #[vc,vm],.int .i64 k,va,vi,.int .i64 fuel] w (BegR w f f.methods[k] args input fuel vc vm vi):=by
 obtain ⟨io,hi',hy0,hy1,hy2⟩:=info_parts info_valP
 obtain ⟨fu,rfl⟩:∃ n:Nat,fuel=(n:Int):=⟨fuel.toNat,by omega⟩
 have HCL:=Lib.hid hc
 have HME:=Lib.hid hm
 have HIN:=Lib.hid hi
 have HTY:=Lib.hid hty
 obtain ⟨a,cap,rfl,k1,k2,_⟩:=hc
 obtain ⟨ma,mcap,rfl,k3,k4,hel⟩:=hm
 obtain ⟨ia,icap,rfl,k5,k6,_⟩:=hi
 obtain ⟨aa,acap,rfl,k7,k8,hea⟩:=ha
 obtain ⟨mb,mo,rfl,hmb,vp,vco,vh,m0,m1,m2,m3,m4,m5,m6,m7,mok,hp,hco,hh⟩:=hel k hk
 obtain ⟨pa,pcap,rfl,k9,k10,hep⟩:=hp
 have h3':¬ (1000:Int) < input.length:=by omega
 have hk':(k:Int) < f.methods.length:=by omega
 have q1:¬ (k:Int) < 0:=by omega
 have q2:¬ (f.methods.length:Int)≤k:=by omega
 have l1:mb < w.heap.size:=by omega
 have l2:mb < w.heap.size+1:=by omega
 have hea':=Lib.hid hea
 have hep':=Lib.hid hep
 obtain ⟨np,hnp⟩:∃ np,np=f.methods[k].params.length:=⟨_,rfl⟩
 have h4':args.length=np:=by omega
 have h4'':((args.length:Int) != (f.methods[k].params.length:Int))=false:=by simp;omega
 clear hel hea hep hty
 go_enter Try.func15,Try.ntmps15
 go_wp2
 go_loopw [13,56] (fun v i wr=>∃ n:Nat,i=.int .i64 n∧n≤np∧Below w.heap.size w wr∧w.heap.size+1≤wr.heap.size∧Hid (wr.ownsRow (w.heap.size+1) 48 2 v n (vcells (argsTo f.methods[k] args n)))∧wr.cell? ⟨w.heap.size,0,none⟩=some (.slice a f.classes.length cap)∧wr.cell? ⟨w.heap.size,1,none⟩=some (.slice (some ⟨mb,mo,none⟩) f.methods.length mcap)∧Hid (∀ j (hj:j < f.methods[k].params.length),j < n→(f.methods[k].params[j]).kind≠3)) (fun _ i _=>np - (intOf i).toNat)
 case atStart=>exact ⟨0,rfl,Nat.zero_le _,by exact Rd.byB,by simp,World.ownsRow_nil _ _ _ _,by go_simp,by go_simp,fun j _ h=>absurd h (by omega)⟩
 case round =>
  obtain ⟨n,rfl,hn,hb,hsz,HR,x0,x1,hall⟩:=hrel
  by_cases hlt:n < np
  ·have hl1:n < f.methods[k].params.length:=by omega
   have hl2:n < args.length:=by omega
   obtain ⟨pb,po,rfl,hpb,p0,p1,_⟩:=hep'.out n hl1
   obtain ⟨ab,ao,rfl,hab,z0,_⟩:=hea'.out n hl2
   have l3:pb < w.heap.size:=by omega
   have l4:ab < w.heap.size:=by omega
   have p0':=kept hb l3 p0
   have p1':=kept hb l3 p1
   rw [Nat.mul_one] at z0
   have z0':=kept hb l4 z0
   obtain ⟨t,ht⟩:=at_of hl1
   obtain ⟨x,hx⟩:=at_of hl2
   rw [ht.out] at p0' p1'
   rw [hx.out] at z0'
   have htk:t.kind=1∨t.kind=2∨t.kind=3:=by have:=HTY.out _ (List.getElem_mem hl1);rwa [ht.out] at this
   have hww:wrap64 (wrap32 x)=wrap32 x:=wrap64_id (wrap32_ok x)
   have hn1:(n:Int) < args.length:=by omega
   have hn2:(n:Int) < f.methods[k].params.length:=by omega
   have l5:pb < wr.heap.size:=Nat.lt_of_lt_of_le l3 hb.size
   have l6:ab < wr.heap.size:=Nat.lt_of_lt_of_le l4 hb.size
   have l7:w.heap.size < wr.heap.size:=by omega
   clear p0 p1 z0 m0 m1 m2 m3 m4 m5 m6 m7
   by_cases q3:t.kind=3
   ·have hif:=Lib.hid (List.any_eq_true.2 ⟨_,List.getElem_mem hl1,by rw [ht.out];simpa using q3⟩:f.methods[k].params.any (fun t=>decide (t.kind=3))=true)
    rw [q3] at p0'
    clear q3 htk
    go_wp2
    go_ret3
    unfold BegR
    rw [if_pos hif.out]
    exact ⟨rfl,by exact Rd.byB⟩
   rcases htk with q1 | q1 | q1
   ·have q1h:=Lib.hid q1
    rw [q1] at p0'
    clear q1
    go_wp2_with (at_builtin;refine wpList_append_lies _ rfl (.tmp 65) (.tmp 73) 43 rfl (w.heap.size+1) 48 io (.agg #[.int .i64 0,.int .i64 0]) 2 16 Try.underlying43 hi' hy0 hy1 hy2 rfl (by decide) u13 n (vcells (argsTo f.methods[k] args n)) (by simp [Act.eval,Act.put]) (row_keep HR.out (kpB (X:=fun _=>False) (w0:=wr) (by exact Rd.byB)) (fun g _ e=>e)) ⟨wr.heap.size+1,0,none⟩ 1 1 [.int .i64 1,.int .i64 (wrap32 x)] (by simp [Act.eval,Act.put]) rfl (by exact news_of (by simp)) (by simp [Value.oneCell']) (by decide) (by unfold maxLen;omega) (by omega) (by simp;omega) _ rfl ?_;intro g2 cap2 w3 hown3 hgrow3 hat3 hlt3;have KG:=grow_kp (by exact Rd.byB) HR.out hgrow3;have e0:=KG.cell x0 (by omega);have e1:=KG.cell x1 (by omega);have hsz3:=KG.size;replace KG:=Lib.hid KG;replace hown3:=Lib.hid hown3;clear hgrow3 hat3)
    refine ⟨⟨n+1,by go_num,hlt,hb.trans (KG.out.below (by omega) (fun k hk=>by omega)),by omega,?_,e0,e1,fun j hj hjn=>?_⟩,by simp only [intOf];omega⟩
    ·have ea:=argsTo_succ (m:=f.methods[k]) (args:=args) hl1 hl2
     rw [ht.out,hx.out] at ea
     have eb:argOf t x=⟨1,wrap32 x⟩:=by unfold argOf;rw [if_pos q1h.out]
     rw [eb] at ea
     rw [ea,vcells_append]
     exact hown3
    ·by_cases hjn2:j < n
     ·exact hall.out j hj hjn2
     ·obtain rfl:j=n:=by omega
      rw [ht.out];exact q3
   ·have q1h:=Lib.hid q1
    rw [q1] at p0'
    clear q1
    go_wp2_with (at_builtin;refine wpList_append_lies _ rfl (.tmp 77) (.tmp 83) 43 rfl (w.heap.size+1) 48 io (.agg #[.int .i64 0,.int .i64 0]) 2 16 Try.underlying43 hi' hy0 hy1 hy2 rfl (by decide) u13 n (vcells (argsTo f.methods[k] args n)) (by simp [Act.eval,Act.put]) (row_keep HR.out (kpB (X:=fun _=>False) (w0:=wr) (by exact Rd.byB)) (fun g _ e=>e)) ⟨wr.heap.size+1,0,none⟩ 1 1 [.int .i64 2,.int .i64 x] (by simp [Act.eval,Act.put]) rfl (by exact news_of (by simp)) (by simp [Value.oneCell']) (by decide) (by unfold maxLen;omega) (by omega) (by simp;omega) _ rfl ?_;intro g2 cap2 w3 hown3 hgrow3 hat3 hlt3;have KG:=grow_kp (by exact Rd.byB) HR.out hgrow3;have e0:=KG.cell x0 (by omega);have e1:=KG.cell x1 (by omega);have hsz3:=KG.size;replace KG:=Lib.hid KG;replace hown3:=Lib.hid hown3;clear hgrow3 hat3)
    refine ⟨⟨n+1,by go_num,hlt,hb.trans (KG.out.below (by omega) (fun k hk=>by omega)),by omega,?_,e0,e1,fun j hj hjn=>?_⟩,by simp only [intOf];omega⟩
    ·have ea:=argsTo_succ (m:=f.methods[k]) (args:=args) hl1 hl2
     rw [ht.out,hx.out] at ea
     have eb:argOf t x=⟨2,x⟩:=by unfold argOf;rw [if_neg (by rw [q1h.out];decide),q1h.out]
     rw [eb] at ea
     rw [ea,vcells_append]
     exact hown3
    ·by_cases hjn2:j < n
     ·exact hall.out j hj hjn2
     ·obtain rfl:j=n:=by omega
      rw [ht.out];exact q3
   ·exact absurd q1 q3
  ·have hn1:¬ (n:Int) < args.length:=by omega
   obtain rfl:n=np:=by omega
   go_wp2
   go_ret3
   have hb0:Below B w wr:=(kpB (X:=fun _=>False) hb).below hB (fun _ e=>e.elim)
   have hnone:¬ (f.methods[k].params.any (fun t=>decide (t.kind=3))=true):=fun he=>by
    obtain ⟨t,ht,h3⟩:=List.any_eq_true.1 he
    obtain ⟨j,hj,rfl⟩:=List.getElem_of_mem ht
    exact hall.out j hj (by omega) (by simpa using h3)
   unfold BegR
   rw [if_neg hnone]
   have hlen:(List.zipWith argOf f.methods[k].params args).length=n:=by rw [List.length_zipWith];omega
   have ea:argsTo f.methods[k] args n=List.zipWith argOf f.methods[k].params args:=by unfold argsTo;rw [← hlen,List.take_length]
   have HR':=HR.out
   rw [ea] at HR'
   have HR2:wr.ownsRow (w.heap.size+1) 48 2 u13 (List.zipWith argOf f.methods[k].params args).length (vcells (List.zipWith argOf f.methods[k].params args)):=by rw [hlen];exact HR'
   have V:=vsRow (X:=fun _=>False) HR2 (fun _ e=>e.elim)
   refine ⟨wr.heap.size,u13,rfl,phNew (HCL.out.mono mCls hb0 hB) (HME.out.mono mMe hb0 hB) (HIN.out.mono mInt hb0 hB) hb.size fu _,V.next (kpB (X:=fun _=>False) (by exact Rd.byB)) (fun _ _ e=>e) (fun b hlt e=>by omega),hb.trans ((kpB (X:=fun _=>False) (w0:=wr) (by exact Rd.byB)).below hb.size (fun _ e=>e.elim))⟩
end
end Hpw
namespace Hpr
open Num Rd D Run Mem HierW Hpw
def InvOk (E:Ev) (d g:Nat) (h:Hp):Prop:=∀ (k:Nat) (args:List Vl) (h1:Hp),k < E.f.methods.length→HpOk E.f.classes E.input E.fuel h1→h1.steps=h.steps→(∀ v∈args,VtOk h1.objs.length v)→args.length=(meAt E.f k).params.length →
 ∀ (L:Lay) (W:World) (mv va:Value) (X:Nat→Prop),PH E W L h1 d→VMe W E.B mv (meAt E.f k)→VS W X va args→(∀ j,own E L j→X j)→Calls Try.prog 18 #[.pointer (some ⟨E.hb,0,none⟩),mv,va] W (InvR E L d W (call RM E.f E.input E.fuel g d (meAt E.f k) args h1))
def CalR (E:Ev) (L:Lay) (P:PS) (m:Me) (d:Nat) (vs:Value) (fr:Rf) (w:World) (a:Out Rf) (e:Ending) (w':World):Prop:=match a with
 | .go fr' h=>e=.returned (.tuple #[])∧LftF E L P m d vs w w' h ⟨fr'.regs,fr.at_,fr'.given,Vl.nil⟩
 | .back _ _=>False
 | .thrown o h=>Pan (thrownV o) e∧LftF E L P m d vs w w' h (clr fr)
 | .stop c h=>Pan (stopV c) e∧LftS E L P d vs w w' h
def calA (E:Ev) (g d:Nat) (m m2:Me) (fr:Rf) (args:List Int) (h:Hp):Out Rf:=match rargs fr args m2.params with
 | none=>.stop 6 h
 | some vals=>outC RM m m2 ⟨fr.regs,fr.at_,Vl.nil,Vl.nil⟩ (call RM E.f E.input E.fuel g d m2 vals h)
theorem rargs_yes {fr:Rf}:∀ (ts:List Ty) (xs:List Int),xs.length=ts.length→(∀ j (h1:j < ts.length) (h2:j < xs.length),(rd fr xs[j]).kind=ts[j].kind)→rargs fr xs ts=some (xs.map (rd fr)):=by
 intro ts
 induction ts with
 | nil=>intro xs hl _;cases xs <;> simp_all [rargs]
 | cons t ts ih =>
  intro xs hl hk
  cases xs with
  | nil=>simp at hl
  | cons x xs =>
   simp only [rargs]
   have h0:(rd fr x).kind=t.kind:=hk 0 (by simp) (by simp)
   rw [if_pos h0,ih xs (by simpa using hl) (fun j h1 h2=>hk (j+1) (by simp;omega) (by simp;omega))]
   rfl
theorem rargs_no {fr:Rf}:∀ (ts:List Ty) (xs:List Int) (j:Nat) (h1:j < ts.length) (h2:j < xs.length),(rd fr xs[j]).kind≠ts[j].kind→rargs fr xs ts=none:=by
 intro ts
 induction ts with
 | nil=>intro xs j h1;simp at h1
 | cons t ts ih =>
  intro xs j h1 h2 hk
  cases xs with
  | nil=>simp at h2
  | cons x xs =>
   simp only [rargs]
   cases j with
   | zero=>rw [if_neg (by simpa using hk)]
   | succ j =>
    split
    ·rw [ih xs j (by simpa using h1) (by simpa using h2) (by simpa using hk)];rfl
    ·rfl
section
variable {E:Ev}{w w' w1 w2:World}{L L' L1:Lay}{h h' h1 h2:Hp}{d:Nat}{P:PS}{m m2:Me}{vs vs1:Value}{rg:List Vl}{ap:Nat}
set_option maxRecDepth 100000 in
theorem calledP (S:ST E w L P m d h ⟨rg,ap,Vl.nil,Vl.nil⟩ vs) (HO:HpOk E.f.classes E.input E.fuel h) (hf:RfOk m h.objs.length ⟨rg,ap,Vl.nil,Vl.nil⟩) (h1000:rg.length≤1000) (k:Nat) (hk:k < E.f.methods.length) (hm2:meAt E.f k=m2) (h4:m2.params.length≤4) (hty:∀ t∈m2.params,1≤t.kind∧t.kind≤3) (b c n op:Int) (args:List Int) (aa:Option Addr) (acap:Nat) (hla:args.length=m2.params.length) (hreg:∀ j (hj:j < args.length),0≤args[j]∧args[j].toNat < rg.length) (hva:Sl 1 EInt w E.B (.slice aa args.length acap) args) (g:Nat) (HI:InvOk E d g h) (hmany:E.f.methods.length≤8) :
  Calls Try.prog 75 #[.pointer (some ⟨P.cb,0,none⟩),.agg #[.int .i64 op,.int .i64 k,.int .i64 b,.int .i64 c,.int .i64 n,.slice aa args.length acap]] w (CalR E L P m d vs ⟨rg,ap,Vl.nil,Vl.nil⟩ w (calA E g d m m2 ⟨rg,ap,Vl.nil,Vl.nil⟩ args h)):=by
 obtain ⟨io,hi',hy0,hy1,hy2⟩:=info_parts info_valP
 obtain ⟨act,hact⟩:∃ act,Hid (calA E g d m m2 ⟨rg,ap,Vl.nil,Vl.nil⟩ args h=act):=⟨_,Lib.hid rfl⟩
 rw [hact.out]
 have HS:=Lib.hid S
 have HIV:=Lib.hid HI
 have hcb:=S.cbw
 have hB:=S.base
 have nf:=S.fo_new (Nat.le_refl _)
 have nf1:=S.fo_new (Nat.le_succ w.heap.size)
 have c0:w.cell? ⟨P.cb,0,none⟩=some (.pointer (some ⟨E.hb,0,none⟩)):=S.c0
 have c1:=S.H.c1
 have hhb:=S.H.hbw
 obtain ⟨ma,mcap,hvm,q1,q2,mel⟩:=S.H.mes
 obtain ⟨mb,mo,rfl,hmb,hme⟩:=mel k hk
 have em:E.f.methods[k]=m2:=by rw [← hm2];unfold meAt;rw [List.getD_eq_getElem?_getD,List.getElem?_eq_getElem hk];rfl
 rw [em] at hme
 obtain ⟨vp,vc,vh,x0,x1,x2,x3,x4,x5,x6,x7,oks,sps,sco,shs⟩:=hme
 have hVM:VMe w E.B (.agg #[vp,.int .i64 m2.ret.kind,.int .i64 m2.ret.cls,.int .i64 m2.stack,.int .i64 m2.locals,.int .i64 m2.regs,vc,vh]) m2:=⟨vp,vc,vh,rfl,oks,sps,sco,shs⟩
 obtain ⟨pa,pcap,rfl,p1,p2,pel⟩:=id sps
 obtain ⟨ca,ccap,rfl,p3,p4,pel2⟩:=id sco
 obtain ⟨ha,hcap,rfl,p5,p6,pel3⟩:=id shs
 obtain ⟨aa',acap',ea,a1,a2,ael⟩:=id hva
 simp only [Value.slice.injEq,true_and] at ea
 obtain ⟨rfl,rfl⟩:=ea
 rw [hvm] at c1
 have hbm:=Nat.lt_of_lt_of_le hmb hB
 have hkl:(k:Int) < E.f.methods.length:=by omega
 have HVM:=Lib.hid hVM
 have PEL:=Lib.hid pel
 have AEL:=Lib.hid ael
 have hcb1:P.cb < w.heap.size+1:=by omega
 have hhb1:E.hb < w.heap.size+1:=by omega
 have hbm1:mb < w.heap.size+1:=by omega
 obtain ⟨np,hnp⟩:∃ np,np=m2.params.length:=⟨_,rfl⟩
 clear S HI q1 q2 mel oks sps sco shs hVM p1 p2 pel p3 p4 pel2 p5 p6 pel3 hva ael
 go_enter Try.func75,Try.ntmps75
 go_wp2_with fail
 go_region
 go_wp2_with fail
 generalize hW:World.drew _=W
 replace hW:=Lib.hid hW
 have HBW:=Lib.hid (show Below w.heap.size w W from by rw [← hW.out];exact Rd.byB)
 have i5:W.cell? ⟨w.heap.size,5,none⟩=some (.slice aa args.length acap):=by rw [← hW.out];go_simp
 have BM:Hid (Blk W (w.heap.size+1) [.slice pa m2.params.length pcap,.int .i64 m2.ret.kind,.int .i64 m2.ret.cls,.int .i64 m2.stack,.int .i64 m2.locals,.int .i64 m2.regs,.slice ca m2.code.length ccap,.slice ha m2.handlers.length hcap]):=by
  show Blk _ _ _
  rw [← hW.out]
  exact (Blk.made1 w _ [.slice pa m2.params.length pcap,.int .i64 m2.ret.kind,.int .i64 m2.ret.cls,.int .i64 m2.stack,.int .i64 m2.locals,.int .i64 m2.regs,.slice ca m2.code.length ccap,.slice ha m2.handlers.length hcap] _).drew
 have hsW:w.heap.size+2≤W.heap.size:=by rw [← hW.out];simp
 clear hW x0 x1 x2 x3 x4 x5 x6 x7 c1
 have hnp4:np≤4:=by omega
 have hlan:=Lib.hid (show args.length=np by omega)
 replace hnp:=Lib.hid hnp
 replace hla:=Lib.hid hla
 go_loopw [5,23] (fun v i wr=>∃ q:Nat,i=.int .i64 q∧q≤np∧Hid (Below w.heap.size w wr)∧w.heap.size+2≤wr.heap.size∧Hid (wr.ownsRow (w.heap.size+2) 48 2 v q (vcells ((args.take q).map (rd ⟨rg,ap,Vl.nil,Vl.nil⟩))))∧wr.cell? ⟨w.heap.size,5,none⟩=some (.slice aa args.length acap)∧Hid (Blk wr (w.heap.size+1) [.slice pa m2.params.length pcap,.int .i64 m2.ret.kind,.int .i64 m2.ret.cls,.int .i64 m2.stack,.int .i64 m2.locals,.int .i64 m2.regs,.slice ca m2.code.length ccap,.slice ha m2.handlers.length hcap])∧Hid (∀ j (h1:j < m2.params.length) (h2:j < args.length),j < q→(rd ⟨rg,ap,Vl.nil,Vl.nil⟩ args[j]).kind=m2.params[j].kind)) (fun _ i _=>np - (intOf i).toNat)
 case atStart=>exact ⟨0,rfl,Nat.zero_le _,HBW,hsW,Lib.hid (World.ownsRow_nil _ _ _ _),i5,BM,Lib.hid (fun j _ _ h=>absurd h (by omega))⟩
 case round =>
  clear HBW BM i5 hsW
  obtain ⟨q,rfl,hq,HBr,hsr,HR,i5,BM,HALL⟩:=hrel
  obtain ⟨ua,ucap,hu⟩:=row_any HR.out
  subst hu
  by_cases hlt:q < np
  ·have hl1:q < m2.params.length:=by rw [← hnp.out];exact hlt
   have hl2:q < args.length:=by rw [hlan.out];exact hlt
   obtain ⟨pb,po,rfl,hpb,p0,p1,_⟩:=PEL.out q hl1
   obtain ⟨ab,ao,rfl,hab,z0,_⟩:=AEL.out q hl2
   obtain ⟨t,ht⟩:=at_of hl1
   obtain ⟨x,hx⟩:=at_of hl2
   obtain ⟨r0,r1⟩:=hreg q hl2
   rw [ht.out] at p0 p1
   rw [hx.out] at z0 r0 r1
   rw [Nat.mul_one] at z0
   obtain ⟨kx,rfl⟩:∃ kx:Nat,x=(kx:Int):=⟨x.toNat,by omega⟩
   rw [Int.toNat_natCast] at r1
   have l1:pb < w.heap.size:=by omega
   have l2:ab < w.heap.size:=by omega
   have p0':=kept HBr.out l1 p0
   have p1':=kept HBr.out l1 p1
   have z0':=kept HBr.out l2 z0
   have hq1:(q:Int) < args.length:=by omega
   have hq2:(q:Int) < m2.params.length:=by omega
   have g1:=cell_lt p0'
   have g2:=cell_lt z0'
   have g3:=cell_lt i5
   have g4:P.cb < wr.heap.size:=by omega
   obtain ⟨tk,tc⟩:=t
   simp only at p0' p1'
   clear p0 p1 z0
   go_wp2_with fail
   generalize hW1:World.alloc wr _=W1
   replace hW1:=Lib.hid hW1
   have HB1:=Lib.hid (show Below wr.heap.size wr W1 from by rw [← hW1.out];exact Rd.byB)
   have t0:W1.cell? ⟨wr.heap.size,0,none⟩=some (.int .i64 tk):=by rw [← hW1.out];go_simp
   have j5:=kept HB1.out g3 i5
   have jz:=kept HB1.out g2 z0'
   have gs:=HB1.out.size
   have gt:=cell_lt t0
   have gu:=cell_lt j5
   have gv:=cell_lt jz
   clear hW1 p0' p1' z0' i5
   obtain ⟨⟨xk,xn⟩,hxv⟩:∃ v,Hid (rg.getD kx Vl.nil=v):=⟨_,Lib.hid rfl⟩
   have hrx:rd ⟨rg,ap,Vl.nil,Vl.nil⟩ (kx:Int)=⟨xk,xn⟩:=by unfold rd;rw [Int.toNat_natCast];exact hxv.out
   replace hrx:=Lib.hid hrx
   have HW1:=Lib.hid (show Below w.heap.size w W1.drew from (HBr.out.trans (HB1.out.mono (by omega))).trans (by exact Rd.byB))
   go_wp2_with fail
   refine Drawn.hd (fun w'=>w'.cell? ⟨w.heap.size,5,none⟩=some (.slice (some ⟨ab,ao,none⟩) args.length acap)∧w'.cell? ⟨ab,ao+q,none⟩=some (.int .i64 kx)∧w'.cell? ⟨wr.heap.size,0,none⟩=some (.int .i64 tk)) (h:=fun hHeld=>?_)
   refine Drawn.T 0 (some 28) (h:=?_)
   refine Drawn.T 1 (some 29) (h:=?_)
   refine Drawn.T 2 (some 30) (h:=?_)
   refine Drawn.T 3 (some 31) (h:=?_)
   refine Drawn.T 4 (some 32) (h:=?_)
   refine Drawn.T 5 (some 33) (h:=?_)
   refine Drawn.T 6 (some 34) (h:=?_)
   refine Drawn.T 7 (some 35) (h:=?_)
   refine Drawn.T 8 (some 36) (h:=?_)
   refine Drawn.cl 9 (fun K hK=>?_)
   go_simp
   go_at_call 74
   by_cases qk:xk=tk
   ·subst qk
    refine (readOk (HS.out.below HW1.out) kx r1 h1000 ⟨xk,xn⟩ hxv.out xk rfl).mono ?_
    rintro e w2 ⟨rfl,hb2⟩
    have y0:=kept hb2 (by simp;omega) (show W1.drew.cell? ⟨w.heap.size,5,none⟩=some (.slice (some ⟨ab,ao,none⟩) args.length acap) from j5)
    have y1:=kept hb2 (by simp;omega) (show W1.drew.cell? ⟨ab,ao+q,none⟩=some (.int .i64 kx) from jz)
    have y2:=kept hb2 (by simp;omega) (show W1.drew.cell? ⟨wr.heap.size,0,none⟩=some (.int .i64 xk) from t0)
    have HB2:=Lib.hid (show Below wr.heap.size wr w2 from HB1.out.trans (Below.trans (by exact Rd.byB) (hb2.mono (by have:=HB1.out.size;first | exact this | (simp;omega)))))
    have hs2:wr.heap.size < w2.heap.size:=by have:=hb2.size;simp at this;omega
    have e0:=cell_lt y0
    have e1:=cell_lt y1
    clear hb2 t0 j5 jz
    go_wp2_with fail
    refine Drawn.bk hK (hS:=by (try dsimp only);exact ⟨y0,y1,y2⟩) (h:=fun hHeld=>?_)
    clear hK K
    refine Drawn.cl 10 (fun K hK=>?_)
    go_simp
    refine Drawn.bk hK (h:=fun hHeld=>?_)
    clear hK K
    have nrow:∀ k,(k < w.heap.size+2∨wr.heap.size≤k)→¬ (Value.slice ua q ucap).ownBlock=some k:=fun k hk e=>by
     have:=World.ownsRow.lt HR.out k e
     omega
    have HR2:=row_keep HR.out (kpB (X:=fun _=>False) (w0:=wr) HB2.out) (fun g _ e=>e)
    refine wpAnyH_ready (rs:=[11]) (by kernel_rfl) (by simp) ?_
    refine AllReadyH.cons rfl (fun K hK=>?_) AllReadyH.nil
    refine step_append_lies _ rfl (.tmp 28) (.tmp 38) 43 rfl (w.heap.size+2) 48 io (.agg #[.int .i64 0,.int .i64 0]) 2 16 Try.underlying43 hi' hy0 hy1 hy2 rfl (by decide) (.slice ua q ucap) q (vcells ((args.take q).map (rd ⟨rg,ap,Vl.nil,Vl.nil⟩))) (by simp [Act.eval,Act.put]) (by exact HR2.alloc _) ⟨w2.heap.size,0,none⟩ 1 1 [.int .i64 xk,.int .i64 xn] (by simp [Act.eval,Act.put]) rfl (by exact news_of (by simp)) (by simp [Value.oneCell']) (by decide) (by unfold maxLen;omega) (by omega) (by simp;omega) _ rfl ?_
    intro g2 cap2 w3 hown3 hgrow3 hat3 hlt3
    have K4:Kp (fun k=>(Value.slice ua q ucap).ownBlock=some k) _ w3:=Kp.of_grown hgrow3 (fun k e=>e)
    have b0:=K4.cell (c:=w.heap.size) (o:=5) (v:=.slice (some ⟨ab,ao,none⟩) args.length acap) (by go_simp) (nrow _ (by omega))
    have b1:=K4.cell (c:=ab) (o:=ao+q) (v:=.int .i64 kx) (by go_simp) (nrow _ (by omega))
    have b2:=K4.cell (c:=wr.heap.size) (o:=0) (v:=.int .i64 xk) (by go_simp) (nrow _ (by omega))
    have hb2':=HB2.out
    have KG:=grow_kp (by exact Rd.byB) HR.out hgrow3
    replace KG:=Lib.hid KG
    replace hown3:=Lib.hid hown3
    clear hgrow3 hat3 K4 HR2
    refine Drawn.bk hK (hS:=by (try dsimp only);exact ⟨b0,b1,b2⟩) (h:=fun hHeld=>?_)
    clear hK K
    refine Drawn.T 12 (some 5) (h:=?_)
    refine wpAnyH_done (by kernel_rfl) ?_ _
    go_wp2_with fail
    refine ⟨⟨q+1,by go_num,hlt,Lib.hid (HBr.out.trans (KG.out.below (by omega) (fun k hk=>by omega))),by have:=KG.out.size;omega,?_,b0,Lib.hid (BM.out.next KG.out (by omega)),Lib.hid (fun j h1 h2 hj=>?_)⟩,by simp only [intOf];omega⟩
    ·have ee:(args.take (q+1)).map (rd ⟨rg,ap,Vl.nil,Vl.nil⟩)=(args.take q).map (rd ⟨rg,ap,Vl.nil,Vl.nil⟩)++[⟨xk,xn⟩]:=by
      rw [List.take_succ_eq_append_getElem hl2,List.map_append,List.map_cons,List.map_nil,hx.out,hrx.out]
     rw [ee,vcells_append]
     exact hown3
    ·by_cases hj2:j < q
     ·exact HALL.out j h1 h2 hj2
     ·obtain rfl:j=q:=by omega
      rw [hx.out,ht.out,hrx.out]
   ·refine (readBad (HS.out.below HW1.out) kx r1 h1000 ⟨xk,xn⟩ hxv.out tk qk).mono ?_
    rintro e w2 ⟨rfl,hb2⟩
    have HB2:=Lib.hid (show Below w.heap.size w w2 from HW1.out.trans (hb2.mono HW1.out.size))
    have ha:act=.stop 6 h:=by
     rw [← hact.out]
     unfold calA
     rw [rargs_no m2.params args q hl1 hl2 (by rw [hx.out,ht.out,hrx.out];exact qk)]
    unfold pan
    refine And.intro rfl ?_
    rw [ha]
    exact ⟨Pan.one _,((Gr.of_below HB2.out).lft (HS.out.below HB2.out)).stop⟩
  ·obtain rfl:q=np:=by omega
   have hqn:¬ (q:Int) < m2.params.length:=by rw [← hnp.out];omega
   have etk:args.take q=args:=by rw [← hlan.out,List.take_length]
   have HR':=HR.out
   rw [etk] at HR'
   have elen:(args.map (rd ⟨rg,ap,Vl.nil,Vl.nil⟩)).length=q:=by rw [List.length_map];exact hlan.out
   have HV:=Lib.hid (vsRow (X:=Hpr.fo E L P vs) (l:=args.map (rd ⟨rg,ap,Vl.nil,Vl.nil⟩)) (by rw [elen];exact HR') (fun k hk=>by have:=(HS.out.fo_lo hk).2;omega))
   have hyes:=rargs_yes (fr:=⟨rg,ap,Vl.nil,Vl.nil⟩) m2.params args hla.out (fun j h1 h2=>HALL.out j h1 h2 (by rw [← hnp.out] at h1;exact h1))
   have hvt:=(rargs_ok hf m2.params args _ hty hyes).1
   obtain ⟨r,hr⟩:∃ r,Hid (call RM E.f E.input E.fuel g d m2 (args.map (rd ⟨rg,ap,Vl.nil,Vl.nil⟩)) h=r):=⟨_,Lib.hid rfl⟩
   have EA:Hid (act=outC RM m m2 ⟨rg,ap,Vl.nil,Vl.nil⟩ r):=by
    show _=_
    rw [← hact.out,← hr.out]
    unfold calA
    rw [hyes]
   have HIK:∀ W:World,Below w.heap.size w W→VS W (Hpr.fo E L P vs) (.slice ua q ucap) (args.map (rd ⟨rg,ap,Vl.nil,Vl.nil⟩))→Calls Try.prog 18 #[.pointer (some ⟨E.hb,0,none⟩),.agg #[.slice pa m2.params.length pcap,.int .i64 m2.ret.kind,.int .i64 m2.ret.cls,.int .i64 m2.stack,.int .i64 m2.locals,.int .i64 m2.regs,.slice ca m2.code.length ccap,.slice ha m2.handlers.length hcap],.slice ua q ucap] W (InvR E L d W r):=fun W hW hV=>by
    have:=HIV.out k (args.map (rd ⟨rg,ap,Vl.nil,Vl.nil⟩)) h hk HO rfl hvt (by rw [hm2,List.length_map];exact hla.out) L W _ _ (Hpr.fo E L P vs) (HS.out.below hW).H (by rw [hm2];exact HVM.out.mono (hW.mono hB) (Nat.le_refl _)) hV (fun _ e=>.inl e)
    rw [hm2,hr.out] at this
    exact this
   replace HIK:=Lib.hid HIK
   have z0:=kept HBr.out hcb c0
   have hcw:=cell_lt z0
   have b0:=(BM.out 0 (by simp)).1
   have b1:=(BM.out 1 (by simp)).1
   have b2:=(BM.out 2 (by simp)).1
   have b3:=(BM.out 3 (by simp)).1
   have b4:=(BM.out 4 (by simp)).1
   have b5:=(BM.out 5 (by simp)).1
   have b6:=(BM.out 6 (by simp)).1
   have b7:=(BM.out 7 (by simp)).1
   simp only [List.getElem_cons_zero,List.getElem_cons_succ] at b0 b1 b2 b3 b4 b5 b6 b7
   have hbw:=cell_lt b0
   clear hyes hvt HIV etk HR' elen
   go_wp2_with fail
   refine Drawn.hd (fun w'=>w'.cell? ⟨P.cb,0,none⟩=some (.pointer (some ⟨E.hb,0,none⟩))∧w'.cell? ⟨w.heap.size+1,0,none⟩=some (.slice pa m2.params.length pcap)∧w'.cell? ⟨w.heap.size+1,1,none⟩=some (.int .i64 m2.ret.kind)∧w'.cell? ⟨w.heap.size+1,2,none⟩=some (.int .i64 m2.ret.cls)∧w'.cell? ⟨w.heap.size+1,3,none⟩=some (.int .i64 m2.stack)∧w'.cell? ⟨w.heap.size+1,4,none⟩=some (.int .i64 m2.locals)∧w'.cell? ⟨w.heap.size+1,5,none⟩=some (.int .i64 m2.regs)∧w'.cell? ⟨w.heap.size+1,6,none⟩=some (.slice ca m2.code.length ccap)∧w'.cell? ⟨w.heap.size+1,7,none⟩=some (.slice ha m2.handlers.length hcap)) (h:=fun hHeld=>?_)
   refine Drawn.T 0 (some 41) (h:=?_)
   refine Drawn.T 1 (some 42) (h:=?_)
   refine Drawn.T 2 (some 43) (h:=?_)
   refine Drawn.T 3 (some 44) (h:=?_)
   refine Drawn.T 4 (some 45) (h:=?_)
   refine Drawn.T 5 (some 46) (h:=?_)
   refine Drawn.T 6 (some 47) (h:=?_)
   refine Drawn.cl 7 (fun K hK=>?_)
   go_simp
   go_at_call 18
   have HW2:=Lib.hid (show Below w.heap.size w wr.drew from HBr.out.trans (by exact Rd.byB))
   refine (HIK.out _ HW2.out (HV.out.next (Kp.of_below (X:=fun _=>False) (w':=wr.drew) (by exact Rd.byB) (Nat.le_refl _)) (fun _ _ e=>e.elim) (fun _ _ e=>e))).mono ?_
   rintro e w5 R
   have SQ:=HS.out.below HW2.out
   cases r with
   | thrown o h2 =>
    obtain ⟨⟨older,hol,rfl⟩,A⟩:=R
    obtain ⟨L5,G5,S5⟩:=Gr.of_heap A SQ
    refine And.intro rfl ?_
    rw [EA.out]
    exact ⟨⟨older,hol,rfl⟩,((Gr.of_below HW2.out).trans G5).lft S5⟩
   | stop c2 h2 =>
    obtain ⟨⟨older,hol,rfl⟩,A⟩:=R
    obtain ⟨L5,G5,S5⟩:=Gr.of_heap A SQ
    refine And.intro rfl ?_
    rw [EA.out]
    exact ⟨⟨older,hol,rfl⟩,(((Gr.of_below HW2.out).trans G5).lft S5).stop⟩
   | ok v h2 =>
    obtain ⟨vk,vn⟩:=v
    obtain ⟨rfl,A⟩:=R
    obtain ⟨L5,G5,S5⟩:=Gr.of_heap A SQ
    have y9:w5.cell? ⟨P.cb,0,none⟩=some (.pointer (some ⟨E.hb,0,none⟩)):=S5.c0
    have y0:=G5.cell (b:=w.heap.size+1) (o:=0) (v:=.slice pa m2.params.length pcap) nf1 (by go_simp)
    have y1:=G5.cell (b:=w.heap.size+1) (o:=1) (v:=.int .i64 m2.ret.kind) nf1 (by go_simp)
    have y2:=G5.cell (b:=w.heap.size+1) (o:=2) (v:=.int .i64 m2.ret.cls) nf1 (by go_simp)
    have y3:=G5.cell (b:=w.heap.size+1) (o:=3) (v:=.int .i64 m2.stack) nf1 (by go_simp)
    have y4:=G5.cell (b:=w.heap.size+1) (o:=4) (v:=.int .i64 m2.locals) nf1 (by go_simp)
    have y5:=G5.cell (b:=w.heap.size+1) (o:=5) (v:=.int .i64 m2.regs) nf1 (by go_simp)
    have y6:=G5.cell (b:=w.heap.size+1) (o:=6) (v:=.slice ca m2.code.length ccap) nf1 (by go_simp)
    have y7:=G5.cell (b:=w.heap.size+1) (o:=7) (v:=.slice ha m2.handlers.length hcap) nf1 (by go_simp)
    have c11:w5.cell? ⟨P.cb,11,none⟩=some (.int .i64 0):=S5.c11
    have c12:w5.cell? ⟨P.cb,12,none⟩=some (.int .i64 0):=S5.c12
    have f11:=S5.fz 11 (by decide)
    have f12:=S5.fz 12 (by decide)
    have hcb5:=S5.cbw
    have hb5:=cell_lt y0
    have hne:w.heap.size+1≠P.cb:=by omega
    have hne2:=hne.symm
    have G6:=Lib.hid ((Gr.of_below HW2.out).trans G5)
    replace S5:=Lib.hid S5
    clear A G5 SQ
    unfold vl
    go_wp2_with fail
    refine Drawn.bk hK (h:=fun hHeld=>?_)
    clear hK K
    refine Drawn.T 8 (some 49) (h:=?_)
    refine Drawn.T 9 (some 50) (h:=?_)
    refine Drawn.cl 10 (fun K hK=>?_)
    go_simp
    refine Drawn.bk hK (h:=fun hHeld=>?_)
    clear hK K
    refine wpAnyH_done (by kernel_rfl) ?_ _
    go_wp2_with fail
    go_end0
    rw [EA.out]
    exact ⟨rfl,G6.out.comp (S5.out.setGiven ⟨vk,vn⟩)⟩
end
end Hpr
end Go.Proofs.Ytncmhenfgbcihac
