/- Parts of the proof: RhG, RhI, RhJ, RhR, Rw0, Vs, RhK, RhS, RcG, ReG, RvG, Rv3, RwG1, RwG2. -/
import Derived.Test.YtncmhenfgbcihabG08
import Derived.Test.YtncmhenfgbcihabG07
import Derived.Test.YtncmhenfgbcihabG02
import Derived.Test.YtncmhenfgbcihabG01
import Derived.RegionTactic
import Derived.ChangeAlike
import Derived.Deep.AppendLies
import Derived.Deep.RegionLaw
import Derived.BigRegion
set_option linter.unusedSimpArgs false
set_option linter.unusedVariables false
set_option maxHeartbeats 8000000
namespace Go.Proofs.Ytncmhenfgbcihab
open Go.RowKit
namespace Rhw
open Num Rd D Run Mem HierW Hpw
section
variable {E:Ev}{w w':World}{L L':RL}{h h':Hp}{d:Nat}{s:Sv}
theorem throwStuck (H:RH E w L h d Sv.run) (v:Vl) (q:v.kind≠3) :
  Calls Try.prog 157 #[.pointer (some ⟨E.hb,0,none⟩),.agg #[.int .i64 v.kind,.int .i64 v.n]] w (Keeps E L h d (Sv.ends 6) w (.tuple #[])):=by
 have HH:=Lib.hid H;have qb:(v.kind==3)=false:=by simpa using q
 clear H
 go_enter Try.func157,Try.ntmps157
 go_wp2_with (go_at_call 104;refine (mustF (HH.out.below (by exact Rd.byB)) rfl).mono ?_;rintro e w2 ⟨rfl,rfl⟩)
 go_end0
 exact ⟨rfl,ended HH.out rfl 6 (by exact Rd.byB)⟩
theorem throwFull (H:RH E w L h d Sv.run) (v:Vl) (q:v.kind=3) (hn:v.n < 0) (q2:100≤h.objs.length) :
  Calls Try.prog 157 #[.pointer (some ⟨E.hb,0,none⟩),.agg #[.int .i64 v.kind,.int .i64 v.n]] w (Keeps E L h d (Sv.ends 4) w (.tuple #[])):=by
 have HH:=Lib.hid H;obtain ⟨kd,n⟩:=v;simp only at q hn;subst q;clear H
 go_enter Try.func157,Try.ntmps157
 go_wp2_with (first | (go_at_call 104;refine (mustT (HH.out.below (by exact Rd.byB)) rfl).mono ?_;rintro e w2 ⟨rfl,rfl⟩) | (go_at_call 198;refine (raiseFull (HH.out.below (by exact Rd.byB)) _ q2).mono ?_;rintro e w2 ⟨⟨v,rfl,rfl⟩,H2,K2⟩;replace H2:=Lib.hid H2;replace K2:=Lib.hid K2))
 go_end0
 exact ⟨rfl,H2.out,(Kp.of_below (B:=w.heap.size) (by exact Rd.byB) (Nat.le_refl _)).trans K2.out (fun _ hy=>.inl hy)⟩
theorem throwNull (H:RH E w L h d Sv.run) (hm:Hier.may E.f.classes=true) (v:Vl) (q:v.kind=3) (hn:v.n < 0) (q2:h.objs.length < 100) :
  Calls Try.prog 157 #[.pointer (some ⟨E.hb,0,none⟩),.agg #[.int .i64 v.kind,.int .i64 v.n]] w (Gives E L (more h ⟨1,fresh E.f.classes 1⟩) d (Sv.thr h.objs.length) w (.tuple #[])):=by
 have HH:=Lib.hid H;obtain ⟨kd,n⟩:=v;simp only at q hn;subst q;clear H
 go_enter Try.func157,Try.ntmps157
 go_wp2_with (first | (go_at_call 104;refine (mustT (HH.out.below (by exact Rd.byB)) rfl).mono ?_;rintro e w2 ⟨rfl,rfl⟩) | (go_at_call 198;refine (raiseOk (HH.out.below (by exact Rd.byB)) hm _ q2).mono ?_;rintro e w2 ⟨rfl,L2,H2,K2,N2⟩;replace H2:=Lib.hid H2;replace K2:=Lib.hid K2;replace N2:=Lib.hid N2))
 go_end0
 exact ⟨rfl,L2,H2.out,(Kp.of_below (B:=w.heap.size) (by exact Rd.byB) (Nat.le_refl _)).trans K2.out (fun _ hy=>.inl hy),fun k hk=>(N2.out k hk).imp_right (fun h=>Nat.le_trans (by simp) h)⟩
theorem throwIt (H:RH E w L h d Sv.run) (v:Vl) (q:v.kind=3) (hn:0≤v.n) :
  Calls Try.prog 157 #[.pointer (some ⟨E.hb,0,none⟩),.agg #[.int .i64 v.kind,.int .i64 v.n]] w (Keeps E L h d (Sv.thr v.n.toNat) w (.tuple #[])):=by
 have HH:=Lib.hid H;obtain ⟨kd,n⟩:=v;simp only at q hn;subst q;have c13:=H.c13;have f13:=H.fz 13 (by decide)
 have hhb:=H.rows.base.2;clear H
 go_enter Try.func157,Try.ntmps157
 go_wp2_with (first | (go_at_call 104;refine (mustT (HH.out.below (by exact Rd.byB)) rfl).mono ?_;rintro e w2 ⟨rfl,rfl⟩))
 go_end0
 have hnn:((n.toNat:Nat):Int)=n:=by omega
 refine ⟨rfl,RH.below (RH.set HH.out 13 (by decide) _ rfl rfl ?_) (by exact Rd.byB),kb ((Kp.refl (own E L) w).setCell (p:=⟨E.hb,13,none⟩) (.inl (.inl rfl)) _) (by exact Rd.byB)⟩
 simp [cellsR,Sv.run,Sv.thr,hnn]
set_option maxRecDepth 100000 in
theorem reckonStuck (H:RH E w L h d Sv.run) (a b:Vl) (kind op:Int) (p q:Bool) (hp:(a.kind==kind)=p) (hq:(b.kind==kind)=q) (hpq:(p && q)=false) :
  Calls Try.prog 200 #[.pointer (some ⟨E.hb,0,none⟩),.agg #[.int .i64 a.kind,.int .i64 a.n],.agg #[.int .i64 b.kind,.int .i64 b.n],.int .i64 kind,.int .i64 op] w (Full E L h d 6 w IsV):=by
 have HH:=Lib.hid H;clear H
 cases p
 all_goals cases q
 all_goals first | (exact absurd hpq (by decide)) | skip
 all_goals
  clear hpq
  go_enter Try.func200,Try.ntmps200
  go_wp2_with (go_at_call 104;refine (mustF (HH.out.below (by exact Rd.byB)) rfl).mono ?_;rintro e w2 ⟨rfl,rfl⟩)
  refine bodyPost_ret (v:=.agg #[.int .i64 0,.int .i64 0]) (by simp [results,Try.results200,go_sem] <;> go_simp) rfl ?_
  obtain ⟨e1,e2⟩:=ended HH.out rfl 6 (w1:=((w.alloc (.cells #[.int .i64 a.kind,.int .i64 a.n] 104)).alloc (.cells #[.int .i64 b.kind,.int .i64 b.n] 104)).alloc (.cells #[.int .i64 0,.int .i64 0] 104)) (by exact Rd.byB)
  exact ⟨⟨_,rfl,0,0,rfl⟩,e1.res2 (fresh_b HH.out (by omega)) _ _,kres2 e2 (by omega) _ _⟩
theorem rlongV (op a b:Int) (w:World) (ha:Ok a) (hb:Ok b) (r:Int) (g:Bool) (h:Num.long op a b=(r,g)):Calls Try.prog 236 #[.int .i64 op,.int .i64 a,.int .i64 b] w fun e w'=>e=.returned (.tuple #[.int .i64 r,.bool g])∧w=w':=by
 have:=NumW.rlong op a b w ha hb
 rw [h] at this;exact this
theorem rintV (op a b:Int) (w:World) (ha:Ok a) (hb:Ok b) (r:Int) (g:Bool) (h:Num.int op a b=(r,g)):Calls Try.prog 237 #[.int .i64 op,.int .i64 a,.int .i64 b] w fun e w'=>e=.returned (.tuple #[.int .i64 r,.bool g])∧w=w':=by
 have:=NumW.rint op a b w ha hb
 rw [h] at this;exact this
set_option maxRecDepth 100000 in
theorem reckonLongOk (H:RH E w L h d Sv.run) (a b:Vl) (kind op:Int) (hp:(a.kind==kind)=true) (hq:(b.kind==kind)=true) (hk:(kind==1)=false) (ha:Ok a.n) (hb:Ok b.n) (r:Int) (hr:Num.long op a.n b.n=(r,true)) :
  Calls Try.prog 200 #[.pointer (some ⟨E.hb,0,none⟩),.agg #[.int .i64 a.kind,.int .i64 a.n],.agg #[.int .i64 b.kind,.int .i64 b.n],.int .i64 kind,.int .i64 op] w (Keeps E L h d Sv.run w (.agg #[.int .i64 kind,.int .i64 r])):=by
 have HH:=Lib.hid H;have hrr:=Lib.hid hr
 skip
 clear H hr
 go_enter Try.func200,Try.ntmps200
 go_wp2_with (first | (go_at_call 104;refine (mustT (HH.out.below (by exact Rd.byB)) rfl).mono ?_;rintro e w2 ⟨rfl,rfl⟩) | (go_at_call 236;refine (rlongV _ a.n b.n _ ha hb _ _ hrr.out).mono ?_;rintro e w2 ⟨rfl,rfl⟩))
 refine bodyPost_ret (v:=.agg #[.int .i64 kind,.int .i64 r]) (by simp [results,Try.results200,go_sem] <;> go_simp) rfl ?_
 exact ⟨rfl,HH.out.below (by exact Rd.byB),kpB (by exact Rd.byB)⟩
set_option maxRecDepth 100000 in
theorem reckonLongFull (H:RH E w L h d Sv.run) (a b:Vl) (kind op:Int) (hp:(a.kind==kind)=true) (hq:(b.kind==kind)=true) (hk:(kind==1)=false) (ha:Ok a.n) (hb:Ok b.n) (r:Int) (hr:Num.long op a.n b.n=(r,false)) (q:100≤h.objs.length) :
  Calls Try.prog 200 #[.pointer (some ⟨E.hb,0,none⟩),.agg #[.int .i64 a.kind,.int .i64 a.n],.agg #[.int .i64 b.kind,.int .i64 b.n],.int .i64 kind,.int .i64 op] w (Full E L h d 4 w IsV):=by
 have HH:=Lib.hid H;have hrr:=Lib.hid hr
 skip
 clear H hr
 go_enter Try.func200,Try.ntmps200
 go_wp2_with (first | (go_at_call 104;refine (mustT (HH.out.below (by exact Rd.byB)) rfl).mono ?_;rintro e w2 ⟨rfl,rfl⟩) | (go_at_call 236;refine (rlongV _ a.n b.n _ ha hb _ _ hrr.out).mono ?_;rintro e w2 ⟨rfl,rfl⟩) | (go_at_call 198;refine (raiseFull (HH.out.below (by exact Rd.byB)) _ q).mono ?_;rintro e w2 ⟨⟨v,rfl,rfl⟩,H2,K2⟩;have r0':=K2.cell (c:=w.heap.size+1+1) (o:=0) (v:=.int .i64 0) (by go_simp) (fun hk=>(fresh_b HH.out (by omega)).2 hk);have r1':=K2.cell (c:=w.heap.size+1+1) (o:=1) (v:=.int .i64 0) (by go_simp) (fun hk=>(fresh_b HH.out (by omega)).2 hk);have f0':=K2.frz (c:=w.heap.size+1+1) (o:=0) (b:=false) (by go_simp) (by simp) (fun hk=>(fresh_b HH.out (by omega)).2 hk);have f1':=K2.frz (c:=w.heap.size+1+1) (o:=1) (b:=false) (by go_simp) (by simp) (fun hk=>(fresh_b HH.out (by omega)).2 hk);replace H2:=Lib.hid H2;replace K2:=Lib.hid K2))
 refine bodyPost_ret (v:=.agg #[.int .i64 kind,.int .i64 r]) (by simp [results,Try.results200,go_sem] <;> go_simp) rfl ?_
 exact ⟨⟨_,rfl,_,_,rfl⟩,H2.out.res2 (fresh_b HH.out (by omega)) _ _,kres2 ((kpB (by exact Rd.byB)).trans K2.out (fun _ hy=>.inl hy)) (by omega) _ _⟩
set_option maxRecDepth 100000 in
theorem reckonLongThr (H:RH E w L h d Sv.run) (hm:Hier.may E.f.classes=true) (a b:Vl) (kind op:Int) (hp:(a.kind==kind)=true) (hq:(b.kind==kind)=true) (hk:(kind==1)=false) (ha:Ok a.n) (hb:Ok b.n) (r:Int) (hr:Num.long op a.n b.n=(r,false)) (q:h.objs.length < 100) :
  Calls Try.prog 200 #[.pointer (some ⟨E.hb,0,none⟩),.agg #[.int .i64 a.kind,.int .i64 a.n],.agg #[.int .i64 b.kind,.int .i64 b.n],.int .i64 kind,.int .i64 op] w (Gives E L (more h ⟨2,fresh E.f.classes 2⟩) d (Sv.thr h.objs.length) w (.agg #[.int .i64 kind,.int .i64 r])):=by
 have HH:=Lib.hid H;have hrr:=Lib.hid hr
 skip
 clear H hr
 go_enter Try.func200,Try.ntmps200
 go_wp2_with (first | (go_at_call 104;refine (mustT (HH.out.below (by exact Rd.byB)) rfl).mono ?_;rintro e w2 ⟨rfl,rfl⟩) | (go_at_call 236;refine (rlongV _ a.n b.n _ ha hb _ _ hrr.out).mono ?_;rintro e w2 ⟨rfl,rfl⟩) | (go_at_call 198;refine (raiseOk (HH.out.below (by exact Rd.byB)) hm _ q).mono ?_;rintro e w2 ⟨rfl,L2,H2,K2,N2⟩;replace N2:=Lib.hid N2;have r0':=K2.cell (c:=w.heap.size+1+1) (o:=0) (v:=.int .i64 0) (by go_simp) (fun hk=>(fresh_b HH.out (by omega)).2 hk);have r1':=K2.cell (c:=w.heap.size+1+1) (o:=1) (v:=.int .i64 0) (by go_simp) (fun hk=>(fresh_b HH.out (by omega)).2 hk);have f0':=K2.frz (c:=w.heap.size+1+1) (o:=0) (b:=false) (by go_simp) (by simp) (fun hk=>(fresh_b HH.out (by omega)).2 hk);have f1':=K2.frz (c:=w.heap.size+1+1) (o:=1) (b:=false) (by go_simp) (by simp) (fun hk=>(fresh_b HH.out (by omega)).2 hk);replace H2:=Lib.hid H2;replace K2:=Lib.hid K2))
 refine bodyPost_ret (v:=.agg #[.int .i64 kind,.int .i64 r]) (by simp [results,Try.results200,go_sem] <;> go_simp) rfl ?_
 exact ⟨rfl,L2,H2.out.res2 (mid_b HH.out N2.out (by omega) (by simp)) _ _,kres2 ((kpB (by exact Rd.byB)).trans K2.out (fun _ hy=>.inl hy)) (by omega) _ _,fun k hk=>(N2.out k hk).imp_right (fun h=>Nat.le_trans (by simp <;> omega) h)⟩
set_option maxRecDepth 100000 in
theorem reckonIntOk (H:RH E w L h d Sv.run) (a b:Vl) (kind op:Int) (hp:(a.kind==kind)=true) (hq:(b.kind==kind)=true) (hk:(kind==1)=true) (ha:Ok a.n) (hb:Ok b.n) (r:Int) (hr:Num.int op a.n b.n=(r,true)) :
  Calls Try.prog 200 #[.pointer (some ⟨E.hb,0,none⟩),.agg #[.int .i64 a.kind,.int .i64 a.n],.agg #[.int .i64 b.kind,.int .i64 b.n],.int .i64 kind,.int .i64 op] w (Keeps E L h d Sv.run w (.agg #[.int .i64 kind,.int .i64 r])):=by
 have HH:=Lib.hid H;have hrr:=Lib.hid hr;obtain ⟨r0,g0,hll⟩:∃ r0 g0,Hid (Num.long op a.n b.n=(r0,g0)):=⟨_,_,rfl⟩;clear H hr
 go_enter Try.func200,Try.ntmps200
 go_wp2_with (first | (go_at_call 104;refine (mustT (HH.out.below (by exact Rd.byB)) rfl).mono ?_;rintro e w2 ⟨rfl,rfl⟩) | (go_at_call 236;refine (rlongV _ a.n b.n _ ha hb _ _ hll.out).mono ?_;rintro e w2 ⟨rfl,rfl⟩) | (go_at_call 237;refine (rintV _ a.n b.n _ ha hb _ _ hrr.out).mono ?_;rintro e w2 ⟨rfl,rfl⟩))
 refine bodyPost_ret (v:=.agg #[.int .i64 kind,.int .i64 r]) (by simp [results,Try.results200,go_sem] <;> go_simp) rfl ?_
 exact ⟨rfl,HH.out.below (by exact Rd.byB),kpB (by exact Rd.byB)⟩
set_option maxRecDepth 100000 in
theorem reckonIntFull (H:RH E w L h d Sv.run) (a b:Vl) (kind op:Int) (hp:(a.kind==kind)=true) (hq:(b.kind==kind)=true) (hk:(kind==1)=true) (ha:Ok a.n) (hb:Ok b.n) (r:Int) (hr:Num.int op a.n b.n=(r,false)) (q:100≤h.objs.length) :
  Calls Try.prog 200 #[.pointer (some ⟨E.hb,0,none⟩),.agg #[.int .i64 a.kind,.int .i64 a.n],.agg #[.int .i64 b.kind,.int .i64 b.n],.int .i64 kind,.int .i64 op] w (Full E L h d 4 w IsV):=by
 have HH:=Lib.hid H;have hrr:=Lib.hid hr;obtain ⟨r0,g0,hll⟩:∃ r0 g0,Hid (Num.long op a.n b.n=(r0,g0)):=⟨_,_,rfl⟩;clear H hr
 go_enter Try.func200,Try.ntmps200
 go_wp2_with (first | (go_at_call 104;refine (mustT (HH.out.below (by exact Rd.byB)) rfl).mono ?_;rintro e w2 ⟨rfl,rfl⟩) | (go_at_call 236;refine (rlongV _ a.n b.n _ ha hb _ _ hll.out).mono ?_;rintro e w2 ⟨rfl,rfl⟩) | (go_at_call 237;refine (rintV _ a.n b.n _ ha hb _ _ hrr.out).mono ?_;rintro e w2 ⟨rfl,rfl⟩) | (go_at_call 198;refine (raiseFull (HH.out.below (by exact Rd.byB)) _ q).mono ?_;rintro e w2 ⟨⟨v,rfl,rfl⟩,H2,K2⟩;have r0':=K2.cell (c:=w.heap.size+1+1) (o:=0) (v:=.int .i64 0) (by go_simp) (fun hk=>(fresh_b HH.out (by omega)).2 hk);have r1':=K2.cell (c:=w.heap.size+1+1) (o:=1) (v:=.int .i64 0) (by go_simp) (fun hk=>(fresh_b HH.out (by omega)).2 hk);have f0':=K2.frz (c:=w.heap.size+1+1) (o:=0) (b:=false) (by go_simp) (by simp) (fun hk=>(fresh_b HH.out (by omega)).2 hk);have f1':=K2.frz (c:=w.heap.size+1+1) (o:=1) (b:=false) (by go_simp) (by simp) (fun hk=>(fresh_b HH.out (by omega)).2 hk);replace H2:=Lib.hid H2;replace K2:=Lib.hid K2))
 refine bodyPost_ret (v:=.agg #[.int .i64 kind,.int .i64 r]) (by simp [results,Try.results200,go_sem] <;> go_simp) rfl ?_
 exact ⟨⟨_,rfl,_,_,rfl⟩,H2.out.res2 (fresh_b HH.out (by omega)) _ _,kres2 ((kpB (by exact Rd.byB)).trans K2.out (fun _ hy=>.inl hy)) (by omega) _ _⟩
set_option maxRecDepth 100000 in
theorem reckonIntThr (H:RH E w L h d Sv.run) (hm:Hier.may E.f.classes=true) (a b:Vl) (kind op:Int) (hp:(a.kind==kind)=true) (hq:(b.kind==kind)=true) (hk:(kind==1)=true) (ha:Ok a.n) (hb:Ok b.n) (r:Int) (hr:Num.int op a.n b.n=(r,false)) (q:h.objs.length < 100) :
  Calls Try.prog 200 #[.pointer (some ⟨E.hb,0,none⟩),.agg #[.int .i64 a.kind,.int .i64 a.n],.agg #[.int .i64 b.kind,.int .i64 b.n],.int .i64 kind,.int .i64 op] w (Gives E L (more h ⟨2,fresh E.f.classes 2⟩) d (Sv.thr h.objs.length) w (.agg #[.int .i64 kind,.int .i64 r])):=by
 have HH:=Lib.hid H;have hrr:=Lib.hid hr;obtain ⟨r0,g0,hll⟩:∃ r0 g0,Hid (Num.long op a.n b.n=(r0,g0)):=⟨_,_,rfl⟩;clear H hr
 go_enter Try.func200,Try.ntmps200
 go_wp2_with (first | (go_at_call 104;refine (mustT (HH.out.below (by exact Rd.byB)) rfl).mono ?_;rintro e w2 ⟨rfl,rfl⟩) | (go_at_call 236;refine (rlongV _ a.n b.n _ ha hb _ _ hll.out).mono ?_;rintro e w2 ⟨rfl,rfl⟩) | (go_at_call 237;refine (rintV _ a.n b.n _ ha hb _ _ hrr.out).mono ?_;rintro e w2 ⟨rfl,rfl⟩) | (go_at_call 198;refine (raiseOk (HH.out.below (by exact Rd.byB)) hm _ q).mono ?_;rintro e w2 ⟨rfl,L2,H2,K2,N2⟩;replace N2:=Lib.hid N2;have r0':=K2.cell (c:=w.heap.size+1+1) (o:=0) (v:=.int .i64 0) (by go_simp) (fun hk=>(fresh_b HH.out (by omega)).2 hk);have r1':=K2.cell (c:=w.heap.size+1+1) (o:=1) (v:=.int .i64 0) (by go_simp) (fun hk=>(fresh_b HH.out (by omega)).2 hk);have f0':=K2.frz (c:=w.heap.size+1+1) (o:=0) (b:=false) (by go_simp) (by simp) (fun hk=>(fresh_b HH.out (by omega)).2 hk);have f1':=K2.frz (c:=w.heap.size+1+1) (o:=1) (b:=false) (by go_simp) (by simp) (fun hk=>(fresh_b HH.out (by omega)).2 hk);replace H2:=Lib.hid H2;replace K2:=Lib.hid K2))
 refine bodyPost_ret (v:=.agg #[.int .i64 kind,.int .i64 r]) (by simp [results,Try.results200,go_sem] <;> go_simp) rfl ?_
 exact ⟨rfl,L2,H2.out.res2 (mid_b HH.out N2.out (by omega) (by simp)) _ _,kres2 ((kpB (by exact Rd.byB)).trans K2.out (fun _ hy=>.inl hy)) (by omega) _ _,fun k hk=>(N2.out k hk).imp_right (fun h=>Nat.le_trans (by simp <;> omega) h)⟩
end
end Rhw
namespace Rhw
open Num Rd D Run Mem HierW Hpw
section
variable {E:Ev}{w w':World}{L L':RL}{h h':Hp}{d:Nat}{s:Sv}
set_option maxRecDepth 100000 in
theorem isNull (H:RH E w L h d Sv.run) (v:Vl) (c:Int) (q:v.kind=3) (hn:v.n < 0) :
  Calls Try.prog 204 #[.pointer (some ⟨E.hb,0,none⟩),.agg #[.int .i64 v.kind,.int .i64 v.n],.int .i64 c] w (Keeps E L h d Sv.run w (.agg #[.int .i64 1,.int .i64 0])):=by
 have HH:=Lib.hid H;obtain ⟨kd,n⟩:=v;simp only at q hn;subst q;have hd:decide (0≤n)=false:=by simp;omega
 clear H
 go_enter Try.func204,Try.ntmps204
 go_wp2
 go_quiet ((go_at_call 104;exact quiet_eq (mustT (HH.out.below (below_drewN (by exact Rd.byB) _)) rfl)))
 go_wp2
 refine bodyPost_ret (v:=.agg #[.int .i64 1,.int .i64 0]) (by simp [results,Try.results204,go_sem] <;> go_simp) rfl ?_
 exact ⟨rfl,(HH.out.below (below_drewN (by exact Rd.byB) nq)).res2 (b:=w.heap.size+1) (fresh_b HH.out (by omega)) _ _,kres2 (b:=w.heap.size+1) (kpB (below_drewN (by exact Rd.byB) nq)) (by omega) _ _⟩
set_option maxRecDepth 100000 in
theorem isOf (H:RH E w L h d Sv.run) (hm:Hier.may E.f.classes=true) (v:Vl) (c:Int) (q:v.kind=3) (h0:0≤v.n) (h1:v.n < h.objs.length) (p:Bool) (hp:Hier.is E.f.classes (obj h v.n).cls c=p) :
  Calls Try.prog 204 #[.pointer (some ⟨E.hb,0,none⟩),.agg #[.int .i64 v.kind,.int .i64 v.n],.int .i64 c] w (Keeps E L h d Sv.run w (.agg #[.int .i64 1,.int .i64 (if p then 1 else 0)])):=by
 have HH:=Lib.hid H;obtain ⟨kd,n⟩:=v;simp only at q h0 h1 hp;subst q;have hd:decide (0≤n)=true:=by simpa using h0
 have hhb:=H.rows.base.2;obtain ⟨g,cap,hvb,c1,c2,hg,hgne,o1,_⟩:=H.ob h0 h1;obtain ⟨ca,ccap,hvc,HC⟩:=H.cls;have b0:=H.c0;have b2:=H.c2;rw [hvb] at b2;rw [hvc] at b0 HC;replace HC:=Lib.hid HC;have hwf:=Lib.hid (Hier.wf_of_may hm);replace hp:=Lib.hid hp;clear H hvb hvc
 cases p
 ·go_enter Try.func204,Try.ntmps204
  go_wp2
  go_quiet ((first | (go_at_call 104;exact quiet_eq (mustT (HH.out.below (below_drewN (by exact Rd.byB) _)) rfl)) | (go_at_call 154;exact quiet_eq (rbelowV _ E.f.classes _ c _ _ hp.out (HC.out.next (below_drewN (by exact Rd.byB) _)) hwf.out))))
  go_wp2
  refine bodyPost_ret (v:=.agg #[.int .i64 1,.int .i64 0]) (by simp [results,Try.results204,go_sem] <;> go_simp) rfl ?_
  exact ⟨rfl,(HH.out.below (below_drewN (by exact Rd.byB) nq)).res2 (b:=w.heap.size+1) (fresh_b HH.out (by omega)) _ _,kres2 (b:=w.heap.size+1) (kpB (below_drewN (by exact Rd.byB) nq)) (by omega) _ _⟩
 ·go_enter Try.func204,Try.ntmps204
  go_wp2
  go_quiet ((first | (go_at_call 104;exact quiet_eq (mustT (HH.out.below (below_drewN (by exact Rd.byB) _)) rfl)) | (go_at_call 154;exact quiet_eq (rbelowV _ E.f.classes _ c _ _ hp.out (HC.out.next (below_drewN (by exact Rd.byB) _)) hwf.out))))
  go_wp2
  refine bodyPost_ret (v:=.agg #[.int .i64 1,.int .i64 1]) (by simp [results,Try.results204,go_sem] <;> go_simp) rfl ?_
  exact ⟨rfl,(HH.out.below (below_drewN (by exact Rd.byB) nq)).res2 (b:=w.heap.size+1) (fresh_b HH.out (by omega)) _ _,kres2 (b:=w.heap.size+1) (kpB (below_drewN (by exact Rd.byB) nq)) (by omega) _ _⟩
set_option maxRecDepth 100000 in
theorem isStuck (H:RH E w L h d Sv.run) (v:Vl) (c:Int) (q:v.kind≠3) :
  Calls Try.prog 204 #[.pointer (some ⟨E.hb,0,none⟩),.agg #[.int .i64 v.kind,.int .i64 v.n],.int .i64 c] w (Full E L h d 6 w IsV):=by
 have HH:=Lib.hid H;have qb:(v.kind==3)=false:=by simpa using q
 have hhb:=H.rows.base.2;clear H q
 go_enter Try.func204,Try.ntmps204
 go_wp2
 refine Drawn.hd (fun w'=>w'.cell? ⟨w.heap.size,0,none⟩=some (.int .i64 v.kind)) (h:=fun hHeld=>?_);refine dT 0 8 ?_;refine dT 1 9 ?_;refine dT 2 10 ?_;refine dT 3 11 ?_;refine Drawn.cl 4 (fun K hK=>?_);go_simp
 go_at_call 104
 refine (mustF (HH.out.below (by exact Rd.byB)) rfl).mono ?_
 rintro e w2 ⟨rfl,rfl⟩
 go_wp2_with fail
 refine Drawn.bk hK (h:=fun hHeld=>?_);clear hK K;refine dT 5 13 ?_;refine dS 6 14 ?_;refine dS 7 15 ?_;refine dS 8 16 ?_;refine dT 9 17 ?_;refine dT 10 18 ?_;refine dS 11 19 ?_;refine dS 12 20 ?_;refine dS 13 21 ?_;refine dS 14 22 ?_;refine dS 15 23 ?_;refine dS 16 24 ?_;refine dS 17 25 ?_;refine dS 18 26 ?_;refine dS 19 27 ?_;refine dS 20 28 ?_;refine dS 21 29 ?_;refine dS 22 30 ?_;refine dS 23 31 ?_;refine dS 24 32 ?_;refine dS 25 33 ?_;refine dS 26 34 ?_;refine dT 27 35 ?_;refine dN ?_
 go_wp2
 refine bodyPost_ret (v:=.agg #[.int .i64 1,.int .i64 0]) (by simp [results,Try.results204,go_sem] <;> go_simp) rfl ?_
 have ee:=ended HH.out rfl 6 (Below.refl w.heap.size w);exact ⟨⟨_,rfl,1,0,rfl⟩,ee.1.below (by exact Rd.byB),kb ee.2 (by exact Rd.byB)⟩
set_option maxRecDepth 100000 in
theorem inEnd (H:RH E w L h d Sv.run) (q:E.input.length≤h.used) :
  Calls Try.prog 205 #[.pointer (some ⟨E.hb,0,none⟩)] w (Full E L h d 3 w IsV):=by
 have HH:=Lib.hid H;have hhb:=H.rows.base.2;obtain ⟨ca,ccap,hvi,c1,c2,_⟩:=id H.rows.inp;have b3:=H.c3;have b10:=H.c10;rw [hvi] at b3;have hd:decide ((h.used:Int)≥(E.input.length:Int))=true:=by simp;omega
 clear H hvi
 go_enter Try.func205,Try.ntmps205
 go_wp2
 go_quiet (fail)
 go_wp2_with (go_at_call 152;refine (endR (HH.out.below (below_drewN (by exact Rd.byB) _)) rfl _).mono ?_;rintro e w1 ⟨rfl,rfl⟩)
 refine bodyPost_ret (v:=.agg #[.int .i64 0,.int .i64 0]) (by simp [results,Try.results205,go_sem] <;> go_simp) rfl ?_
 have ee:=ended HH.out rfl 3 (below_drewN (w:=w.alloc (.cells #[.int .i64 0,.int .i64 0] 104)) (by exact Rd.byB) nq)
 exact ⟨⟨_,rfl,0,0,rfl⟩,ee.1.res2 (b:=w.heap.size) (fresh_b HH.out (by omega)) _ _,kres2 (b:=w.heap.size) ee.2 (by omega) _ _⟩
set_option maxRecDepth 100000 in
theorem inOk (H:RH E w L h d Sv.run) (q:h.used < E.input.length) (x:Int) (hx:E.input.getD h.used 0=x) (h63:E.input.length≤1000) :
  Calls Try.prog 205 #[.pointer (some ⟨E.hb,0,none⟩)] w (Keeps E L { h with used:=h.used+1 } d Sv.run w (.agg #[.int .i64 2,.int .i64 x])):=by
 have HH:=Lib.hid H;have hhb:=H.rows.base.2;obtain ⟨ca,ccap,hvi,c1,c2,hel⟩:=id H.rows.inp;obtain ⟨b,o,rfl,hb,he,_⟩:=hel h.used q;have b3:=H.c3;have b10:=H.c10;have f10:=H.fz 10 (by decide)
 rw [hvi] at b3;have hxx:E.input[h.used]=x:=by rw [← hx,List.getD_eq_getElem?_getD,List.getElem?_eq_getElem q];rfl
 rw [hxx,Nat.mul_one] at he;have hbw:b < w.heap.size:=by have:=H.rows.base;omega
 have hd:decide ((h.used:Int)≥(E.input.length:Int))=false:=by simp;omega
 have hi:(h.used:Int) < E.input.length:=by omega
 clear H hvi hel hx hxx
 go_enter Try.func205,Try.ntmps205
 go_wp2
 go_quiet (fail)
 obtain ⟨nq0,rfl⟩:∃ k:Nat,k=nq:=⟨_,rfl⟩
 go_wp2
 go_quiet (fail)
 go_wp2
 refine bodyPost_ret (v:=.agg #[.int .i64 2,.int .i64 x]) (by simp [results,Try.results205,go_sem] <;> go_simp) rfl ?_
 have ee:RH E _ L { h with used:=h.used+1 } d Sv.run:=RH.set (HH.out.below (below_drewN (w:=w.alloc (.cells #[.int .i64 0,.int .i64 0] 104)) (by exact Rd.byB) (nq0+nq))) 10 (by decide) (.int .i64 (h.used+1)) rfl rfl (by simp [cellsR])
 exact ⟨rfl,ee.res2 (b:=w.heap.size) (fresh_b HH.out (by omega)) _ _,kres2 (b:=w.heap.size) ((kpB (below_drewN (by exact Rd.byB) _)).setCell (p:=⟨E.hb,10,none⟩) (.inl (.inl rfl)) _) (by omega) _ _⟩
end
end Rhw
namespace Rhw
open Num Rd D Run Mem HierW Hpw
theorem info_int64:(Try.prog.info? 2).map (fun i=>(i.zero,i.size,i.bytes))=some (some (.int .i64 0),1,8):=by kernel_rfl
theorem nodup_out {hb:Nat}{a a' b:List Nat}(h:(hb :: (a++b)).Nodup) (ha:a'.Nodup) (h1:∀ x∈a',x∈a∨(x≠hb∧x∉b)):(hb :: (a'++b)).Nodup:=by
 simp only [List.nodup_cons,List.nodup_append,List.mem_append,not_or] at h ⊢;obtain ⟨⟨n1,n2⟩,na,nb,nab⟩:=h;refine ⟨⟨fun hm=>?_,n2⟩,ha,nb,fun x hx y hy e=>?_⟩
 ·rcases h1 _ hm with q | q
  ·exact n1 q
  ·exact q.1 rfl
 ·subst e
  rcases h1 _ hx with q | q
  ·exact nab _ q _ hy rfl
  ·exact q.2 hy
section
variable {E:Ev}{w w' wr W w2:World}{L L':RL}{h h':Hp}{d:Nat}{s:Sv}
def outed (h:Hp) (n:Int):Hp:={ h with out:=h.out++[n] }
theorem grow_out (H:RH E w L h d s) (hW:Below w.heap.size w W){g cap:Nat}{n:Int}
  (ho:w2.ownsRow E.B 2 1 (.slice (some ⟨g,0,none⟩) (h.out.length+1) cap) (h.out.length+1) (h.out.map (.int .i64 ·)++[.int .i64 n])) (hg:W.grownBy w2 L.vo.ownBlock) (hat:L.vo.ownBlock=some g∨g=W.heap.size) :
  RH E (w2.setCell ⟨E.hb,9,none⟩ (.slice (some ⟨g,0,none⟩) (h.out.length+1) cap)) ⟨.slice (some ⟨g,0,none⟩) (h.out.length+1) cap,L.vb,L.hvs⟩ (outed h n) d s ∧
  Kp (own E L) w (w2.setCell ⟨E.hb,9,none⟩ (.slice (some ⟨g,0,none⟩) (h.out.length+1) cap)) ∧
  ∀ k,own E ⟨.slice (some ⟨g,0,none⟩) (h.out.length+1) cap,L.vb,L.hvs⟩ k→own E L k∨w.heap.size≤k:=by
 have HW:=H.below hW;have hsz:=hW.size;have hnd:=H.rows.nodup;unfold Rhw.rows at hnd;have hvo:∀ k,L.vo.ownBlock=some k→own E L k:=fun k e=>.inr (mem_rows.2 (.inl e));have hK:Kp (fun k=>L.vo.ownBlock=some k) W w2:=Kp.of_grown hg (fun k e=>e)
 have apart:∀ k,(L.vo.ownBlock=some k)→k≠E.hb∧L.vb.ownBlock≠some k∧∀ v∈L.hvs,v.ownBlock≠some k:=by
  intro k e
  obtain ⟨n1,n2⟩:=List.nodup_cons.1 hnd;refine ⟨fun q=>n1 (List.mem_append.2 (.inl (mem_own.2 (by rw [e,q])))),fun q=>?_,fun v hv q=>?_⟩
  ·exact (List.nodup_append.1 n2).2.2 k (mem_own.2 e) k (List.mem_append.2 (.inl (mem_own.2 q))) rfl
  ·exact (List.nodup_append.1 n2).2.2 k (mem_own.2 e) k (List.mem_append.2 (.inr (List.mem_flatMap.2 ⟨v,hv,mem_own.2 q⟩))) rfl
 have gap:g≠E.hb∧L.vb.ownBlock≠some g∧∀ v∈L.hvs,v.ownBlock≠some g:=by
  rcases hat with e | e
  ·exact apart g e
  ·refine ⟨by have:=H.rows.base.2;omega,fun q=>?_,fun v hv q=>?_⟩
   ·have:=(H.rows.lo (mem_rows.2 (.inr (.inl q)))).2;omega
   ·have:=(H.rows.lo (mem_rows.2 (.inr (.inr ⟨v,hv,q⟩)))).2;omega
 have hcell:Kp (fun k=>k=E.hb) w2 (w2.setCell ⟨E.hb,9,none⟩ (.slice (some ⟨g,0,none⟩) (h.out.length+1) cap)):=Kp.setCell (Kp.refl (fun k=>k=E.hb) w2) (p:=⟨E.hb,9,none⟩) (.inl rfl) _
 have hKK:Kp (own E L) w (w2.setCell ⟨E.hb,9,none⟩ (.slice (some ⟨g,0,none⟩) (h.out.length+1) cap)) :=
  ((kpB hW:Kp (own E L) w W).trans hK (fun y hy=>.inl (hvo y hy))).trans hcell (fun y hy=>.inl (.inl hy))
 have hb0:E.B≤w.heap.size:=by have:=H.rows.base;omega
 refine ⟨⟨⟨hKK.sl mCls H.rows.cls hb0 (fun k hk=>(own_lo H.rows hk).1),hKK.sl mMe H.rows.mes hb0 (fun k hk=>(own_lo H.rows hk).1),hKK.sl mInt H.rows.inp hb0 (fun k hk=>(own_lo H.rows hk).1),?_,?_,H.rows.many,fun i hi=>?_,⟨H.rows.base.1,Nat.lt_of_lt_of_le H.rows.base.2 hKK.size⟩,?_⟩,?_⟩,hKK,fun k hk=>?_⟩
 ·unfold outed;simp only [List.length_append,List.length_cons,List.length_nil,List.map_append,List.map_cons,List.map_nil];exact ownsRow_setCell_other ho (by simp [Value.ownBlock];exact gap.1) _
 ·exact row_keep (row_keep HW.rows.objs hK (fun k e e'=>(apart k e').2.1 e)) hcell (fun k e e'=>by subst e';exact H.rows.hb (mem_rows.2 (.inr (.inl e))))
 ·exact row_keep (row_keep (HW.rows.held i hi) hK (fun k e e'=>(apart k e').2.2 _ (List.getElem_mem hi) e)) hcell (fun k e e'=>by subst e';exact H.rows.hb (mem_rows.2 (.inr (.inr ⟨_,List.getElem_mem hi,e⟩))))
 ·unfold Rhw.rows;refine nodup_out hnd (ownB_nodup _) (fun x hx=>?_)
  have:x=g:=by simpa [Value.ownBlock] using hx
  subst this
  rcases hat with e | e
  ·exact .inl (mem_own.2 e)
  ·refine .inr ⟨gap.1,fun q=>?_⟩
   rcases List.mem_append.1 q with q | q
   ·exact gap.2.1 (mem_own.1 q)
   ·obtain ⟨v,hv,q⟩:=List.mem_flatMap.1 q;exact gap.2.2 v hv (mem_own.1 q)
 ·have c1:Blk w2 E.hb (cellsR E L h d s):=HW.cells.next hK (fun e=>(apart _ e).1 rfl);exact c1.set 9 (by simp [cellsR]) _
 ·rcases hk with e | e
  ·exact .inl (.inl e)
  ·rcases mem_rows.1 e with e | e | ⟨v,hv',e3⟩
   ·have:k=g:=by simpa [Value.ownBlock,eq_comm] using e
    subst this
    rcases hat with e | e
    ·exact .inl (hvo _ e)
    ·right;omega
   ·exact .inl (.inr (mem_rows.2 (.inr (.inl e))))
   ·exact .inl (.inr (mem_rows.2 (.inr (.inr ⟨v,hv',e3⟩))))
theorem out_mid (H:RH E w L h d s) (hW:Below w.heap.size w W) (hg:W.grownBy w2 L.vo.ownBlock):Blk w2 E.hb (cellsR E L h d s) :=
 (H.below hW).cells.next (Kp.of_grown (X:=fun k=>L.vo.ownBlock=some k) hg (fun k e=>e)) (fun e=>H.rows.hb (mem_rows.2 (.inl e)))
theorem emitStuck (H:RH E w L h d Sv.run) (v:Vl) (kind:Int) (q:v.kind≠kind) :
  Calls Try.prog 158 #[.pointer (some ⟨E.hb,0,none⟩),.agg #[.int .i64 v.kind,.int .i64 v.n],.int .i64 kind] w (Keeps E L h d (Sv.ends 6) w (.tuple #[])):=by
 have HH:=Lib.hid H;have qb:(v.kind==kind)=false:=by simpa using q
 clear H
 go_enter Try.func158,Try.ntmps158
 go_wp2_with (go_at_call 104;refine (mustF (HH.out.below (by exact Rd.byB)) rfl).mono ?_;rintro e w2 ⟨rfl,rfl⟩)
 go_end0
 exact ⟨rfl,ended HH.out rfl 6 (by exact Rd.byB)⟩
set_option maxRecDepth 100000 in
theorem emitOk (H:RH E w L h d Sv.run) (v:Vl) (kind:Int) (q:v.kind=kind) (hlen:h.out.length≤60000) :
  Calls Try.prog 158 #[.pointer (some ⟨E.hb,0,none⟩),.agg #[.int .i64 v.kind,.int .i64 v.n],.int .i64 kind] w (Gives E L (outed h v.n) d Sv.run w (.tuple #[])):=by
 obtain ⟨io,hi',hy0,hy1,hy2⟩:=info_parts info_int64;have HH:=Lib.hid H;have hhb:=H.rows.base.2;have hB2:E.B≤w.heap.size:=by have:=H.rows.base;omega
 have c9:=H.c9;obtain ⟨ba,bcap,hvo⟩:=row_any H.rows.out
 have ho2:Hid (w.ownsRow E.B 2 1 (.slice ba h.out.length bcap) h.out.length (h.out.map (.int .i64 ·))):=by
  show World.ownsRow _ _ _ _ _ _ _
  rw [← hvo];exact H.rows.out
 rw [hvo] at c9;obtain ⟨kd,n⟩:=v;simp only at q;subst q;have f9:=H.fz 9 (by decide)
 clear H
 go_enter Try.func158,Try.ntmps158
 go_wp2_with (go_at_call 104;refine (mustT (HH.out.below (by exact Rd.byB)) rfl).mono ?_;rintro e w2 ⟨rfl,rfl⟩)
 go_region_law ((refine step_append_lies _ rfl (.tmp 17) (.tmp 20) 39 rfl E.B 2 io (.int .i64 0) 1 8 Try.underlying39 hi' hy0 hy1 hy2 rfl (by decide) (.slice ba h.out.length bcap) h.out.length (h.out.map (.int .i64 ·)) (by simp [Act.eval,Act.put]) (by exact row_drew ((ho2.out.alloc _).alloc _)) ⟨w.heap.size+1,0,none⟩ 1 1 [.int .i64 n] (by simp [Act.eval,Act.put]) rfl (by exact news_of (by simp)) (by simp [Value.oneCell']) (by decide) (by unfold maxLen;omega) (by omega) (by simp;omega) _ rfl ?_;intro g2 cap2 w3 hown3 hgrow3 hat3 hlt3;rw [← hvo] at hgrow3 hat3;have OB:=out_mid HH.out (by exact Rd.byB) hgrow3;have q1:w3.cell? ⟨E.hb,9,none⟩=some (.slice ba h.out.length bcap):=(by rw [← hvo];exact (OB 9 (by simp [cellsR])).1);have q2:w3.frozen? ⟨E.hb,9,none⟩=false:=(OB 9 (by simp [cellsR])).2;have HA:=Lib.hid (grow_out HH.out (by exact Rd.byB) hown3 hgrow3 (by simpa using hat3));clear hown3 hgrow3 hat3 OB))
 all_goals
  go_end0
  obtain ⟨A1,A2,A3⟩:=HA.out;exact ⟨rfl,_,A1,A2,A3⟩
end
end Rhw
namespace Rhw
open Num Rd D Run Mem HierW Hpw
section
variable {E:Ev}{w w':World}{L L':RL}{h h':Hp}{d:Nat}{s:Sv}
def RL2 (E:Ev) (L:RL) (d:Nat) (w w':World) (h':Hp) (s:Sv):Prop:=∃ L',Kp (own E L) w w'∧(∀ k,own E L' k→own E L k∨w.heap.size≤k)∧RH E w' L' h' d s
def RRv (E:Ev) (L:RL) (d:Nat) (w:World) (r:Res Vl) (e:Ending) (w':World):Prop :=
 ∃ k n:Int,e=.returned (.agg #[.int .i64 k,.int .i64 n])∧match r with
  | .ok a h'=>(k=a.kind∧n=a.n)∧RL2 E L d w w' h' Sv.run
  | .thrown o h'=>RL2 E L d w w' h' (Sv.thr o)
  | .stop c h'=>RL2 E L d w w' h' (Sv.ends c)
def RRu (E:Ev) (L:RL) (d:Nat) (w:World) (r:Res Unit) (e:Ending) (w':World):Prop :=
 e=.returned (.tuple #[])∧match r with
  | .ok a h'=>RL2 E L d w w' h' Sv.run
  | .thrown o h'=>RL2 E L d w w' h' (Sv.thr o)
  | .stop c h'=>RL2 E L d w w' h' (Sv.ends c)
theorem full_v {c:Int}{r:Res Vl}(hr:r=.stop c h){e:Ending}(H:Full E L h d c w IsV e w'):RRv E L d w r e w':=by
 subst hr;obtain ⟨⟨v,he,k,n,rfl⟩,H,K⟩:=H;exact ⟨k,n,he,L,K,same_own,H⟩
theorem gives_v {a:Vl}{k n:Int}{r:Res Vl}(hr:r=.ok a h') (hk:k=a.kind) (hn:n=a.n){e:Ending}(H:Gives E L h' d Sv.run w (.agg #[.int .i64 k,.int .i64 n]) e w'):RRv E L d w r e w':=by
 subst hr;obtain ⟨he,L',H,K,N⟩:=H;exact ⟨k,n,he,⟨hk,hn⟩,L',K,N,H⟩
theorem thr_v {o:Nat}{k n:Int}{r:Res Vl}(hr:r=.thrown o h'){e:Ending}(H:Gives E L h' d (Sv.thr o) w (.agg #[.int .i64 k,.int .i64 n]) e w'):RRv E L d w r e w':=by
 subst hr;obtain ⟨he,L',H,K,N⟩:=H;exact ⟨k,n,he,L',K,N,H⟩
theorem stop_u {c:Int}{r:Res Unit}(hr:r=.stop c h'){e:Ending}(H:Keeps E L h' d (Sv.ends c) w (.tuple #[]) e w'):RRu E L d w r e w':=by
 subst hr;exact ⟨H.1,L,H.2.2,same_own,H.2.1⟩
theorem ok_u {r:Res Unit}(hr:r=.ok () h'){e:Ending}(H:Gives E L h' d Sv.run w (.tuple #[]) e w'):RRu E L d w r e w':=by
 subst hr;obtain ⟨he,L',H,K,N⟩:=H;exact ⟨he,L',K,N,H⟩
theorem thr_u {o:Nat}{r:Res Unit}(hr:r=.thrown o h'){e:Ending}(H:Gives E L h' d (Sv.thr o) w (.tuple #[]) e w'):RRu E L d w r e w':=by
 subst hr;obtain ⟨he,L',H,K,N⟩:=H;exact ⟨he,L',K,N,H⟩
theorem new_full (l:List Cls) (c:Int) (h:Hp) (q:100≤h.objs.length):new l c h=.stop 4 h:=by unfold new;rw [if_pos q]
theorem new_ok' (l:List Cls) (c:Int) (h:Hp) (q:¬ 100≤h.objs.length):new l c h=.ok ⟨3,h.objs.length⟩ (more h ⟨c,fresh l c⟩):=by unfold new;rw [if_neg q];rfl
theorem raise_full {α:Type}(l:List Cls) (c:Int) (h:Hp) (q:100≤h.objs.length):(raise l c h:Res α)=.stop 4 h:=by unfold raise;rw [new_full l c h q];rfl
theorem raise_ok' {α:Type}(l:List Cls) (c:Int) (h:Hp) (q:¬ 100≤h.objs.length):(raise l c h:Res α)=.thrown h.objs.length (more h ⟨c,fresh l c⟩):=by
 unfold raise;rw [new_ok' l c h q];simp [Res.bind]
theorem newR (H:RH E w L h d Sv.run) (hm:Hier.may E.f.classes=true) (c:Int) :
  Calls Try.prog 202 #[.pointer (some ⟨E.hb,0,none⟩),.int .i64 c] w (RRv E L d w (Run.new E.f.classes c h)):=by
 by_cases q:100≤h.objs.length
 ·exact (newFull H c q).mono fun _ _ R=>full_v (new_full _ _ _ q) R
 ·exact (newOk H hm c (by omega)).mono fun _ _ R=>gives_v (new_ok' _ _ _ q) rfl rfl R
theorem getR (H:RH E w L h d Sv.run) (hm:Hier.may E.f.classes=true) (HO:HpOk E.f.classes E.input E.fuel h) (v:Vl) (hv:VlOk h.objs.length v) (c k:Int) :
  Calls Try.prog 203 #[.pointer (some ⟨E.hb,0,none⟩),.agg #[.int .i64 v.kind,.int .i64 v.n],.int .i64 c,.int .i64 k] w (RRv E L d w (Run.get E.f.classes v c k h)):=by
 unfold Run.get
 cases ho:ofT E.f.classes h v ⟨3,c⟩
 ·rw [if_pos rfl];exact (getStuck H hm v c k (fun e=>(hv.2.2.2 e).2) ho).mono fun _ _ R=>full_v rfl R
 ·rw [if_neg (by simp)]
  have hk:v.kind=3:=(of_ref ho).1
  by_cases hn:v.n < 0
  ·rw [if_pos hn]
   by_cases q:100≤h.objs.length
   ·exact (getFull H hm v c k hn ho q).mono fun _ _ R=>full_v (raise_full _ _ _ q) R
   ·exact (getNull H hm v c k hn ho (by omega)).mono fun _ _ R=>thr_v (raise_ok' _ _ _ q) R
  ·rw [if_neg hn];have h1:=(hv.2.2.2 hk).2;have hob:=HO.obs _ (obj_mem (by omega) h1)
   have h72:=ob_len hm hob
   by_cases hj:idx (obj h v.n).held (c,k) < (obj h v.n).held.length
   ·exact (getAt H hm v c k (by omega) h1 ho h72 hj _ rfl).mono fun _ _ R=>gives_v rfl rfl rfl R.gives
   ·exact (getNo H hm v c k (by omega) h1 ho h72 hj).mono fun _ _ R=>gives_v rfl (by rw [find_no hj];rfl) (by rw [find_no hj];rfl) R.gives
theorem putHR (H:RH E w L h d Sv.run) (hm:Hier.may E.f.classes=true) (HO:HpOk E.f.classes E.input E.fuel h) (r v:Vl) (hr:VlOk h.objs.length r) (hv:VlOk h.objs.length v) (c k:Nat) (hc:c < E.f.classes.length) (hk:k < (Hier.at' E.f.classes c).fields.length) :
  Calls Try.prog 159 #[.pointer (some ⟨E.hb,0,none⟩),.agg #[.int .i64 r.kind,.int .i64 r.n],.int .i64 c,.int .i64 k,.agg #[.int .i64 v.kind,.int .i64 v.n]] w (RRu E L d w (Run.put E.f.classes r c k v (ftype E.f.classes c k) h)):=by
 have hv2:v.kind=3→v.n < h.objs.length:=fun e=>(hv.2.2.2 e).2;unfold Run.put
 cases ht:ofT E.f.classes h v (ftype E.f.classes c k)
 ·rw [if_pos rfl];exact (putType H hm r v c k hv2 hc hk ht).mono fun _ _ R=>stop_u rfl R
 ·rw [if_neg (by simp)]
  cases ho:ofT E.f.classes h r ⟨3,c⟩
  ·rw [if_pos rfl];exact (putStuck H hm r v c k hv2 hc hk ht (fun e=>(hr.2.2.2 e).2) ho).mono fun _ _ R=>stop_u rfl R
  ·rw [if_neg (by simp)]
   have hkk:r.kind=3:=(of_ref ho).1
   by_cases hn:r.n < 0
   ·rw [if_pos hn]
    by_cases q:100≤h.objs.length
    ·exact (putFull H hm r v c k hv2 hc hk ht hn ho q).mono fun _ _ R=>stop_u (raise_full _ _ _ q) R
    ·exact (putNull H hm r v c k hv2 hc hk ht hn ho (by omega)).mono fun _ _ R=>thr_u (raise_ok' _ _ _ q) R
   ·rw [if_neg hn];have h1:=(hr.2.2.2 hkk).2;have hob:=HO.obs _ (obj_mem (by omega) h1)
    have h72:=ob_len hm hob
    by_cases hj:idx (obj h r.n).held ((c:Int),(k:Int)) < (obj h r.n).held.length
    ·refine (putAt H hm r v c k hv2 hc hk ht (by omega) h1 ho h72 hj).mono fun _ _ R=>ok_u ?_ R.gives
     rw [become_idx (ob_nodup hob)];rfl
    ·refine (putNo H hm r v c k hv2 hc hk ht (by omega) h1 ho h72 hj).mono fun _ _ R=>ok_u ?_ R.gives
     have hlt:r.n.toNat < h.objs.length:=by omega
     rw [become_no_idx hj]
     show Res.ok () { h with objs:=h.objs.set r.n.toNat (obj h r.n) } = Res.ok () h
     have:h.objs.set r.n.toNat (obj h r.n)=h.objs:=by
      unfold obj;rw [List.getD_eq_getElem?_getD,List.getElem?_eq_getElem hlt];exact List.set_getElem_self hlt
     rw [this]
theorem castR (H:RH E w L h d Sv.run) (hm:Hier.may E.f.classes=true) (v:Vl) (hv:VlOk h.objs.length v) (c:Int) :
  Calls Try.prog 169 #[.pointer (some ⟨E.hb,0,none⟩),.agg #[.int .i64 v.kind,.int .i64 v.n],.int .i64 c] w (RRu E L d w (Run.cast E.f.classes v c h)):=by
 unfold Run.cast
 by_cases hk:v.kind=3
 ·rw [if_neg (by simpa using hk)]
  have h1:=(hv.2.2.2 hk).2
  cases ho:ofT E.f.classes h v ⟨3,c⟩
  ·rw [if_pos rfl]
   by_cases q:100≤h.objs.length
   ·exact (castFull H hm v c hk h1 ho q).mono fun _ _ R=>stop_u (raise_full _ _ _ q) R
   ·exact (castThr H hm v c hk h1 ho (by omega)).mono fun _ _ R=>thr_u (raise_ok' _ _ _ q) R
  ·rw [if_neg (by simp)]
   exact (castOk H hm v c hk h1 ho).mono fun _ _ R=>ok_u rfl R.gives
 ·rw [if_pos hk];exact (castStuck H v c hk).mono fun _ _ R=>stop_u rfl R
theorem throwR (H:RH E w L h d Sv.run) (hm:Hier.may E.f.classes=true) (v:Vl) :
  Calls Try.prog 157 #[.pointer (some ⟨E.hb,0,none⟩),.agg #[.int .i64 v.kind,.int .i64 v.n]] w (RRu E L d w (Run.throw E.f.classes v h)):=by
 unfold Run.throw
 by_cases hk:v.kind=3
 ·rw [if_neg (by simpa using hk)]
  by_cases hn:v.n < 0
  ·rw [if_pos hn]
   by_cases q:100≤h.objs.length
   ·exact (throwFull H v hk hn q).mono fun _ _ R=>stop_u (raise_full _ _ _ q) R
   ·exact (throwNull H hm v hk hn (by omega)).mono fun _ _ R=>thr_u (raise_ok' _ _ _ q) R
  ·rw [if_neg hn];exact (throwIt H v hk (by omega)).mono fun _ _ R=>thr_u rfl R.gives
 ·rw [if_pos hk];exact (throwStuck H v hk).mono fun _ _ R=>stop_u rfl R
theorem emitR (H:RH E w L h d Sv.run) (v:Vl) (kind:Int) (hl:h.out.length≤60000) :
  Calls Try.prog 158 #[.pointer (some ⟨E.hb,0,none⟩),.agg #[.int .i64 v.kind,.int .i64 v.n],.int .i64 kind] w (RRu E L d w (Run.emit v kind h)):=by
 unfold Run.emit
 by_cases hk:v.kind=kind
 ·rw [if_neg (by simpa using hk)]
  exact (emitOk H v kind hk hl).mono fun _ _ R=>ok_u rfl R
 ·rw [if_pos hk];exact (emitStuck H v kind hk).mono fun _ _ R=>stop_u rfl R
theorem isR (H:RH E w L h d Sv.run) (hm:Hier.may E.f.classes=true) (v:Vl) (hv:VlOk h.objs.length v) (c:Int) :
  Calls Try.prog 204 #[.pointer (some ⟨E.hb,0,none⟩),.agg #[.int .i64 v.kind,.int .i64 v.n],.int .i64 c] w (RRv E L d w (Run.isV E.f.classes v c h)):=by
 unfold Run.isV
 by_cases hk:v.kind=3
 ·rw [if_neg (by simpa using hk)]
  have h1:=(hv.2.2.2 hk).2
  by_cases hn:v.n < 0
  ·exact (isNull H v c hk hn).mono fun _ _ R=>gives_v rfl rfl (by rw [if_neg (by omega)]) R.gives
  ·refine (isOf H hm v c hk (by omega) h1 _ rfl).mono fun _ _ R=>gives_v rfl rfl ?_ R.gives
   have h0:0≤v.n:=by omega
   simp [h0]
 ·rw [if_pos hk];exact (isStuck H v c hk).mono fun _ _ R=>full_v rfl R
theorem reckonR (H:RH E w L h d Sv.run) (hm:Hier.may E.f.classes=true) (a b:Vl) (ha:Ok a.n) (hb:Ok b.n) (kind op:Int) (hk:kind=1∨kind=2) :
  Calls Try.prog 200 #[.pointer (some ⟨E.hb,0,none⟩),.agg #[.int .i64 a.kind,.int .i64 a.n],.agg #[.int .i64 b.kind,.int .i64 b.n],.int .i64 kind,.int .i64 op] w (RRv E L d w (Run.reckon E.f.classes a b kind op h)):=by
 unfold Run.reckon
 by_cases q:a.kind≠kind∨b.kind≠kind
 ·rw [if_pos q];refine (reckonStuck H a b kind op _ _ rfl rfl ?_).mono fun _ _ R=>full_v rfl R
  rcases q with q | q <;> simp [q]
 ·rw [if_neg q];have qa:(a.kind==kind)=true:=by simp at q;simp [q]
  have qb:(b.kind==kind)=true:=by simp at q;simp [q]
  rcases hk with rfl | rfl
  ·cases hg:(Num.int op a.n b.n).2
   ·have e:(numOf 1 op a.n b.n).2=false:=hg;rw [e,if_pos rfl]
    by_cases q:100≤h.objs.length
    ·exact (reckonIntFull H a b 1 op qa qb rfl ha hb (Num.int op a.n b.n).1 (by rw [← hg]) q).mono fun _ _ R=>full_v (raise_full _ _ _ q) R
    ·exact (reckonIntThr H hm a b 1 op qa qb rfl ha hb (Num.int op a.n b.n).1 (by rw [← hg]) (by omega)).mono fun _ _ R=>thr_v (raise_ok' _ _ _ q) R
   ·have e:(numOf 1 op a.n b.n).2=true:=hg;rw [e,if_neg (by simp)]
    exact (reckonIntOk H a b 1 op qa qb rfl ha hb (Num.int op a.n b.n).1 (by rw [← hg])).mono fun _ _ R=>gives_v rfl rfl rfl R.gives
  ·cases hg:(Num.long op a.n b.n).2
   ·have e:(numOf 2 op a.n b.n).2=false:=hg;rw [e,if_pos rfl]
    by_cases q:100≤h.objs.length
    ·exact (reckonLongFull H a b 2 op qa qb rfl ha hb (Num.long op a.n b.n).1 (by rw [← hg]) q).mono fun _ _ R=>full_v (raise_full _ _ _ q) R
    ·exact (reckonLongThr H hm a b 2 op qa qb rfl ha hb (Num.long op a.n b.n).1 (by rw [← hg]) (by omega)).mono fun _ _ R=>thr_v (raise_ok' _ _ _ q) R
   ·have e:(numOf 2 op a.n b.n).2=true:=hg;rw [e,if_neg (by simp)]
    exact (reckonLongOk H a b 2 op qa qb rfl ha hb (Num.long op a.n b.n).1 (by rw [← hg])).mono fun _ _ R=>gives_v rfl rfl rfl R.gives
theorem inR (H:RH E w L h d Sv.run) (h1000:E.input.length≤1000) :
  Calls Try.prog 205 #[.pointer (some ⟨E.hb,0,none⟩)] w (RRv E L d w (Run.takeIn E.input h)):=by
 unfold Run.takeIn
 by_cases q:E.input.length≤h.used
 ·rw [if_pos q];exact (inEnd H q).mono fun _ _ R=>full_v rfl R
 ·rw [if_neg q];exact (inOk H (by omega) _ rfl h1000).mono fun _ _ R=>gives_v rfl rfl rfl R.gives
end
end Rhw
namespace Rhw
open Num Rd D Run Mem HierW Hpw
def L0:RL:=⟨.slice none 0 0,.slice none 0 0,[]⟩
def h0:Hp:=⟨[],[],0,0⟩
theorem rhNew {w1:World}{B:Nat}{f:Fi}{input:List Int}{vc vm vi:Value}(hc:Sl 2 ECls w1 B vc f.classes) (hm:Sl 8 EMe w1 B vm f.methods) (hi:Sl 1 EInt w1 B vi input) (hB:B≤w1.heap.size) (fuel:Nat) (T:TypeId) :
  RH ⟨f,input,fuel,w1.heap.size,B,vc,vm,vi⟩ (w1.alloc (.cells #[vc,vm,.slice none 0 0,vi,.int .i64 0,.int .i64 fuel,.int .i64 0,.int .i64 0,.int .i64 0,.slice none 0 0,.int .i64 0,.int .i64 0,.bool false,.int .i64 (-1)] T)) L0 h0 0 Sv.run:=by
 have hb:Below B w1 (w1.alloc (.cells #[vc,vm,.slice none 0 0,vi,.int .i64 0,.int .i64 fuel,.int .i64 0,.int .i64 0,.int .i64 0,.slice none 0 0,.int .i64 0,.int .i64 0,.bool false,.int .i64 (-1)] T)):=(Below.refl B w1).alloc hB _;refine ⟨⟨hc.mono mCls hb (Nat.le_refl _),hm.mono mMe hb (Nat.le_refl _),hi.mono mInt hb (Nat.le_refl _),World.ownsRow_nil ..,World.ownsRow_nil ..,rfl,fun i hi=>absurd hi (by simp [L0]),⟨hB,by simp⟩,by simp [L0,rows,Value.ownBlock]⟩,?_⟩
 exact Blk.made w1 (cellsR ⟨f,input,fuel,w1.heap.size,B,vc,vm,vi⟩ L0 h0 0 Sv.run) T
end Rhw
namespace Hpw
open Num Rd D Run Mem
def VS (w:World) (X:Nat→Prop) (v:Value) (l:List Vl):Prop:=∃ (a:Option Addr) (cap:Nat),v=.slice a l.length cap∧l.length≤cap∧cap≤9223372036854775807 ∧
 ∀ i (h:i < l.length),∃ b o,a=some ⟨b,o,none⟩∧¬ X b∧w.cell? ⟨b,o+i*2,none⟩=some (.int .i64 l[i].kind)∧w.cell? ⟨b,o+i*2+1,none⟩=some (.int .i64 l[i].n)
theorem VS.next {w w':World}{X Y X':Nat→Prop}{v:Value}{l:List Vl}(h:VS w X v l) (hk:Kp Y w w') (hY:∀ b,b < w.heap.size→Y b→X b) (hX:∀ b,b < w.heap.size→X' b→X b):VS w' X' v l:=by
 obtain ⟨a,cap,h1,h2,h3,h4⟩:=h;refine ⟨a,cap,h1,h2,h3,fun i hi=>?_⟩;obtain ⟨b,o,e,hx,c1,c2⟩:=h4 i hi;have hb:=cell_lt c1;exact ⟨b,o,e,fun q=>hx (hX b hb q),hk.cell c1 (fun q=>hx (hY b hb q)),hk.cell c2 (fun q=>hx (hY b hb q))⟩
theorem VS.mono {w:World}{X X':Nat→Prop}{v:Value}{l:List Vl}(h:VS w X v l) (hX:∀ b,b < w.heap.size→X' b→X b):VS w X' v l :=
 h.next (Kp.refl (fun _=>False) w) (fun _ _ e=>e.elim) hX
theorem VS.nil (w:World) (X:Nat→Prop):VS w X (.slice none 0 0) []:=⟨none,0,rfl,Nat.le_refl _,by omega,fun i hi=>absurd hi (by simp)⟩
theorem VS.drop {w:World}{X:Nat→Prop}{b o n cap k:Nat}{l:List Vl}(h:VS w X (.slice (some ⟨b,o,none⟩) n cap) l) (hk:k≤l.length):VS w X (.slice (some ⟨b,o+k*2,none⟩) (n - k) (cap - k)) (l.drop k):=by
 obtain ⟨a,c,h1,h2,h3,h4⟩:=h;simp only [Value.slice.injEq] at h1;obtain ⟨rfl,rfl,rfl⟩:=h1;refine ⟨some ⟨b,o+k*2,none⟩,cap - k,by rw [List.length_drop],by rw [List.length_drop];omega,by omega,fun i hi=>?_⟩
 have hi':k+i < l.length:=by simp at hi;omega
 obtain ⟨b',o',e,hx,c1,c2⟩:=h4 (k+i) hi';simp only [Option.some.injEq,Addr.mk.injEq,and_true] at e;obtain ⟨rfl,rfl⟩:=e;refine ⟨_,_,rfl,hx,?_,?_⟩
 ·rw [List.getElem_drop];rw [show o+k*2+i*2=o+(k+i)*2 by omega];exact c1
 ·rw [List.getElem_drop];rw [show o+k*2+i*2+1=o+(k+i)*2+1 by omega];exact c2
theorem VS.take {w:World}{X:Nat→Prop}{a:Option Addr}{n cap k:Nat}{l:List Vl}(h:VS w X (.slice a n cap) l) (hk:k≤l.length):VS w X (.slice a k cap) (l.take k):=by
 obtain ⟨a,c,h1,h2,h3,h4⟩:=h;simp only [Value.slice.injEq] at h1;obtain ⟨rfl,rfl,rfl⟩:=h1;refine ⟨a,cap,by rw [List.length_take,Nat.min_eq_left hk],by rw [List.length_take];omega,h3,fun i hi=>?_⟩
 have hi':i < l.length:=by simp at hi;omega
 obtain ⟨b',o',e,hx,c1,c2⟩:=h4 i hi';exact ⟨_,_,e,hx,by rw [List.getElem_take];exact c1,by rw [List.getElem_take];exact c2⟩
theorem VS.zero {w:World}{X:Nat→Prop}{a:Option Addr}{cap:Nat}(h:cap≤9223372036854775807):VS w X (.slice a 0 cap) []:=⟨a,cap,rfl,Nat.zero_le _,h,fun i hi=>absurd hi (by simp)⟩
theorem VS.len {w:World}{X:Nat→Prop}{v:Value}{l:List Vl}(h:VS w X v l):∃ a cap,v=.slice a l.length cap∧l.length≤cap∧cap≤9223372036854775807:=by
 obtain ⟨a,c,h1,h2,h3,_⟩:=h;exact ⟨a,c,h1,h2,h3⟩
theorem VS.form {w:World}{X:Nat→Prop}{v:Value}{l:List Vl}(h:VS w X v l) (h0:0 < l.length):∃ b o cap,v=.slice (some ⟨b,o,none⟩) l.length cap∧l.length≤cap∧cap≤9223372036854775807∧b < w.heap.size∧¬ X b ∧
  ∀ i (h:i < l.length),w.cell? ⟨b,o+i*2,none⟩=some (.int .i64 l[i].kind)∧w.cell? ⟨b,o+i*2+1,none⟩=some (.int .i64 l[i].n):=by
 obtain ⟨a,c,h1,h2,h3,h4⟩:=h;obtain ⟨b,o,e,hx,c1,c2⟩:=h4 0 h0;subst e;refine ⟨b,o,c,h1,h2,h3,cell_lt c1,hx,fun i hi=>?_⟩;obtain ⟨b',o',e,_,c1,c2⟩:=h4 i hi;simp only [Option.some.injEq,Addr.mk.injEq,and_true] at e;obtain ⟨rfl,rfl⟩:=e;exact ⟨c1,c2⟩
theorem Blk.getV {w:World}{b:Nat}{l:List Vl}(h:Blk w b (vcells l)){i:Nat}(hi:i < l.length):w.cell? ⟨b,i*2,none⟩=some (.int .i64 (l.getD i Vl.nil).kind)∧w.cell? ⟨b,i*2+1,none⟩=some (.int .i64 (l.getD i Vl.nil).n)∧w.frozen? ⟨b,i*2,none⟩=false∧w.frozen? ⟨b,i*2+1,none⟩=false:=by
 obtain ⟨h1,h2⟩:=vcells_get l i hi;obtain ⟨j1,e1⟩:=List.getElem?_eq_some_iff.1 h1;obtain ⟨j2,e2⟩:=List.getElem?_eq_some_iff.1 h2;exact ⟨by rw [(h _ j1).1,e1],by rw [(h _ j2).1,e2],(h _ j1).2,(h _ j2).2⟩
theorem Blk.setV {w:World}{b:Nat}{l:List Vl}(h:Blk w b (vcells l)){i:Nat}(hi:i < l.length) (v:Vl):Blk ((w.setCell ⟨b,i*2,none⟩ (.int .i64 v.kind)).setCell ⟨b,i*2+1,none⟩ (.int .i64 v.n)) b (vcells (l.set i v)):=by
 have hl:=vcells_len l;rw [vcells_set];exact (Blk.set h (i*2) (by omega) _).set (i*2+1) (by simp;omega) _
theorem kp_setV {X:Nat→Prop}{w w':World}(h:Kp X w w'){b:Nat}(hb:X b∨w.heap.size≤b) (i j:Nat) (u v:Value):Kp X w ((w'.setCell ⟨b,i,none⟩ u).setCell ⟨b,j,none⟩ v) :=
 (h.setCell (p:=⟨b,i,none⟩) hb u).setCell (p:=⟨b,j,none⟩) hb v
def twos:List Vl→Nat
 | []=>0
 | v :: l=>(if v.kind=2 then 1 else 0)+twos l
theorem size_twos:∀ l:List Vl,size l=l.length+twos l:=by
 intro l
 induction l with
 | nil=>rfl
 | cons v l ih=>simp only [size,twos,width,List.length_cons,ih];split <;> omega
theorem twos_snoc (l:List Vl) (v:Vl):twos (l++[v])=twos l+if v.kind=2 then 1 else 0:=by
 induction l with
 | nil=>simp [twos]
 | cons u l ih=>simp only [List.cons_append,twos,ih];omega
theorem twos_le (l:List Vl):twos l≤l.length:=by
 induction l with
 | nil=>simp [twos]
 | cons v l ih=>simp only [twos,List.length_cons];split <;> omega
end Hpw
namespace Run
open D
theorem allOf_take {l:List Cls}{h:Hp}:∀ (vs:List Vl) (ts:List Ty),vs.length=ts.length→(allOf l h vs ts=true↔∀ i (hi:i < vs.length) (hj:i < ts.length),ofT l h vs[i] ts[i]=true):=by
 intro vs
 induction vs with
 | nil=>intro ts h;cases ts with
  | nil=>simp [allOf]
  | cons t ts=>simp at h
 | cons v vs ih=>intro ts h;cases ts with
  | nil=>simp at h
  | cons t ts =>
   simp only [allOf,Bool.and_eq_true,ih ts (by simpa using h)]
   refine ⟨fun ⟨h1,h2⟩ i hi hj=>?_,fun h1=>⟨h1 0 (by simp) (by simp),fun i hi hj=>h1 (i+1) (by simpa using hi) (by simpa using hj)⟩⟩
   cases i with
   | zero=>exact h1
   | succ i=>exact h2 i (by simpa using hi) (by simpa using hj)
end Run
namespace Rhw
open Num Rd D Run Mem HierW Hpw
def mcells (vp vc vh:Value) (m:Me):List Value:=[vp,.int .i64 m.ret.kind,.int .i64 m.ret.cls,.int .i64 m.stack,.int .i64 m.locals,.int .i64 m.regs,vc,vh]
section
variable {E:Ev}{w w':World}{L L':RL}{h h':Hp}{d:Nat}{s:Sv}
def EnterR (E:Ev) (L:RL) (h:Hp) (d:Nat) (args:List Vl) (m:Me) (w:World) (e:Ending) (w':World):Prop :=
 (allOf E.f.classes h args m.params=false∧Keeps E L h d (Sv.ends 6) w (.bool false) e w')∨(allOf E.f.classes h args m.params=true∧20≤d∧Keeps E L h d (Sv.ends 5) w (.bool false) e w')∨(allOf E.f.classes h args m.params=true∧d < 20∧Keeps E L h (d+1) Sv.run w (.bool true) e w')
set_option maxRecDepth 100000 in
theorem enter (H:RH E w L h d Sv.run) (hm:Hier.may E.f.classes=true){vp vc vh va:Value}(m:Me) (hp:Sl 2 ETy w E.B vp m.params) (args:List Vl) (X:Nat→Prop) (ha:VS w X va args) (hX:X E.hb) (hl:args.length=m.params.length) (hv:∀ v∈args,v.kind=3→v.n < h.objs.length) (hd:d≤20) :
  Calls Try.prog 100 #[.pointer (some ⟨E.hb,0,none⟩),.agg #[vp,.int .i64 m.ret.kind,.int .i64 m.ret.cls,.int .i64 m.stack,.int .i64 m.locals,.int .i64 m.regs,vc,vh],va] w (EnterR E L h d args m w):=by
 have HH:=Lib.hid H;have hhb:=H.rows.base.2;have c4:=H.c4;have f4:=H.fz 4 (by decide)
 have hB:=Lib.hid (show E.B≤w.heap.size from Nat.le_trans H.rows.base.1 (Nat.le_of_lt hhb));obtain ⟨pa,pcap,rfl,p1,p2,pel⟩:=hp;obtain ⟨aa,acap,rfl,a1,a2⟩:=ha.len;have HA:=Lib.hid ha;have hiff:=Lib.hid (allOf_take (l:=E.f.classes) (h:=h) args m.params hl);have hll:=Lib.hid hl;have hvv:=Lib.hid hv;clear H ha hl hv
 go_enter Try.func100,Try.ntmps100
 go_wp2
 go_loopw [7] (fun i wr=>∃ n:Nat,i=.int .i64 n∧n≤m.params.length∧Below w.heap.size (w.alloc (.cells #[.slice pa m.params.length pcap,.int .i64 m.ret.kind,.int .i64 m.ret.cls,.int .i64 m.stack,.int .i64 m.locals,.int .i64 m.regs,vc,vh] 55)) wr∧wr.cell? ⟨w.heap.size,0,none⟩=some (.slice pa m.params.length pcap)∧Hid (∀ i (hi:i < args.length) (hj:i < m.params.length),i < n→ofT E.f.classes h args[i] m.params[i]=true)) (fun i _=>m.params.length - (intOf i).toNat)
 case atStart=>exact ⟨0,rfl,Nat.zero_le _,Below.refl _ _,by go_simp,fun i _ _ h=>absurd h (by omega)⟩
 case round =>
  obtain ⟨n,rfl,hn,hb,hc0,hall⟩:=hrel;have hbw:Below w.heap.size w wr:=Below.trans (by exact Rd.byB) hb
  have HR:=Lib.hid (HH.out.below hbw);have hBW:=Lib.hid hbw
  by_cases hlt:n < m.params.length
  ·have hla:n < args.length:=by rw [hll.out];exact hlt
   obtain ⟨pb,po,rfl,hpb,hpe⟩:=pel n hlt;obtain ⟨t1,t2,_,_⟩:=hpe;obtain ⟨t,ht⟩:=at_of hlt;obtain ⟨v,hv⟩:=at_of hla;rw [ht.out] at t1 t2;obtain ⟨ab,ao,acap',hx,_,_,hab,hnx,hel⟩:=HA.out.form (by omega)
   simp only [Value.slice.injEq,true_and] at hx;obtain ⟨rfl,rfl⟩:=hx;obtain ⟨z0,z1⟩:=hel n hla;rw [hv.out] at z0 z1;have lpb:pb < w.heap.size:=Nat.lt_of_lt_of_le hpb hB.out;have t1':=kept hbw lpb t1;have t2':=kept hbw lpb t2;have z0':=kept hbw hab z0;have z1':=kept hbw hab z1;have hni:(n:Int) < m.params.length:=by omega
   have hni2:(n:Int) < args.length:=by omega
   have hsz:=hb.size;have hsz2:w.heap.size < wr.heap.size:=by simp at hsz;omega
   have hvo:=Lib.hid (hvv.out v (by rw [← hv.out];exact List.getElem_mem hla))
   obtain ⟨p,hp⟩:∃ p,Hid (ofT E.f.classes h v t=p):=⟨_,rfl⟩
   have hno:=Lib.hid (fun (e:ofT E.f.classes h v t=false)=>show allOf E.f.classes h args m.params=false from by
    cases q:allOf E.f.classes h args m.params
    ·rfl
    ·have:=hiff.out.1 q n hla hlt
     rw [ht.out,hv.out,e] at this;cases this)
   have hnext:=Lib.hid (fun (e:ofT E.f.classes h v t=true)=>show ∀ i (hi:i < args.length) (hj:i < m.params.length),i < n+1→ofT E.f.classes h args[i] m.params[i]=true from fun i hi hj hin=>by
    by_cases q:i < n
    ·exact hall.out i hi hj q
    ·obtain rfl:i=n:=by omega
     rw [ht.out,hv.out];exact e)
   replace hb:=Lib.hid hb;clear hel pel t1 t2 z0 z1 hab hbw c4 f4
   go_wp2
   refine Drawn.hd (fun w'=>w'.cell? ⟨ab,ao+n*2,none⟩=some (.int .i64 v.kind)∧w'.cell? ⟨ab,ao+n*2+1,none⟩=some (.int .i64 v.n)∧w'.cell? ⟨w.heap.size,0,none⟩=some (.slice (some ⟨pb,po,none⟩) m.params.length pcap)∧w'.cell? ⟨pb,po+n*2,none⟩=some (.int .i64 t.kind)∧w'.cell? ⟨pb,po+n*2+1,none⟩=some (.int .i64 t.cls)) (h:=fun hHeld=>?_);refine dT 0 15 ?_;refine dT 1 16 ?_;refine dT 2 17 ?_;refine dT 3 18 ?_;refine dT 4 19 ?_;refine dT 5 20 ?_;refine dT 6 21 ?_;refine dT 7 22 ?_;refine dT 8 23 ?_;refine dT 9 24 ?_;refine dT 10 25 ?_;refine Drawn.cl 11 (fun K hK=>?_);go_simp;refine (ofV (HR.out.below (by exact Rd.byB)) hm v t _ hp.out hvo.out).mono ?_
   rintro e w1 ⟨rfl,hb1⟩;have kk:∀ (b o:Nat) (u:Value),World.cell? _ ⟨b,o,none⟩=some u→w1.cell? ⟨b,o,none⟩=some u:=fun b o u hc=>kept hb1 (cell_lt hc) hc;have y0:=kk ab (ao+n*2) (.int .i64 v.kind) (by go_simp)
   have y1:=kk ab (ao+n*2+1) (.int .i64 v.n) (by go_simp)
   have y2:=kk w.heap.size 0 (.slice (some ⟨pb,po,none⟩) m.params.length pcap) (by go_simp)
   have y3:=kk pb (po+n*2) (.int .i64 t.kind) (by go_simp)
   have y4:=kk pb (po+n*2+1) (.int .i64 t.cls) (by go_simp)
   have HB1:=Lib.hid (show Below wr.heap.size wr w1 from Below.trans (by exact Rd.byB) (hb1.mono (by simp <;> omega)))
   clear kk hb1;have HW1:=Lib.hid (hBW.out.trans (HB1.out.mono hBW.out.size))
   cases p
   ·go_wp2_with fail
    refine Drawn.bk hK (hS:=by (try dsimp only);exact ⟨y0,y1,y2,y3,y4⟩) (h:=fun hHeld=>?_)
    clear hK K;refine Drawn.cl 12 (fun K hK=>?_);go_simp;refine (mustF (HH.out.below HW1.out) rfl).mono ?_;rintro e w2 ⟨rfl,rfl⟩;have hne1:ab≠E.hb:=fun e=>hnx (by rw [e];exact hX)
    have hne2:pb≠E.hb:=by have:=HH.out.rows.base.1;omega
    have hne3:w.heap.size≠E.hb:=by omega
    have nb:∀ b,b≠E.hb→∀ o u,w1.cell? ⟨b,o,none⟩=some u→((w1.setCell ⟨E.hb,12,none⟩ (.bool true)).setCell ⟨E.hb,6,none⟩ (.int .i64 6)).cell? ⟨b,o,none⟩=some u:=fun b hne o u hc=>((Kp.setCell (Kp.setCell (Kp.refl (fun k=>k=E.hb) w1) (p:=⟨E.hb,12,none⟩) (.inl rfl) _) (p:=⟨E.hb,6,none⟩) (.inl rfl) _).cell hc hne)
    go_wp2_with fail
    refine Drawn.bk hK (hS:=by (try dsimp only);exact ⟨nb _ hne1 _ _ y0,nb _ hne1 _ _ y1,nb _ hne3 _ _ y2,nb _ hne2 _ _ y3,nb _ hne2 _ _ y4⟩) (h:=fun hHeld=>?_)
    clear hK K;refine dT 13 28 ?_;refine dN ?_
    go_wp2
    go_ret;exact .inl ⟨hno.out hp.out,rfl,ended HH.out rfl 6 HW1.out⟩
   ·go_wp2_with fail
    refine Drawn.bk hK (hS:=by (try dsimp only);exact ⟨y0,y1,y2,y3,y4⟩) (h:=fun hHeld=>?_)
    clear hK K;refine Drawn.cl 12 (fun K hK=>?_);go_simp;refine (mustT (HH.out.below HW1.out) rfl).mono ?_;rintro e w2 ⟨rfl,rfl⟩
    go_wp2_with fail
    refine Drawn.bk hK (hS:=by (try dsimp only);exact ⟨y0,y1,y2,y3,y4⟩) (h:=fun hHeld=>?_)
    clear hK K;refine dT 13 28 ?_;refine dN ?_
    go_wp2
    go_roundw
    case rel=>exact ⟨n+1,by go_num,by omega,hb.out.trans (HB1.out.mono hBW.out.size),y2,hnext.out hp.out⟩
    case measure=>simp [intOf];omega
  ·obtain rfl:n=m.params.length:=by omega
   have hyes:Hid (allOf E.f.classes h args m.params=true):=hiff.out.2 (fun i hi hj=>hall.out i hi hj hj);have c4':=HR.out.c4;have f4':=HR.out.fz 4 (by decide)
   clear hb hbw c4 f4
   by_cases q:20≤d
   ·obtain rfl:d=20:=by omega
    go_wp2_with (go_at_call 152;refine (endR (HR.out.below (by exact Rd.byB)) rfl _).mono ?_;rintro e w1 ⟨rfl,rfl⟩)
    go_ret;exact .inr (.inl ⟨hyes.out,by omega,rfl,ended HH.out rfl 5 hBW.out⟩)
   ·have hdd:decide ((20:Int)≤d)=false:=by simp;omega
    have hdl:d < 20:=by omega
    go_wp2
    go_ret;refine .inr (.inr ⟨hyes.out,hdl,rfl,RH.set HR.out 4 (by decide) _ rfl rfl ?_,(kpB hBW.out).setCell (p:=⟨E.hb,4,none⟩) (.inl (.inl rfl)) _⟩)
    simp [cellsR]
def goAt (x:Option Hd):Int:=match x with
 | some x=>x.go
 | none=>-1
set_option maxRecDepth 100000 in
theorem caught {o:Nat}(H:RH E w L h d (Sv.thr o)) (ho:o < h.objs.length) (hm:Hier.may E.f.classes=true){vp vc vh:Value}(m:Me) (hh:Sl 4 EHd w E.B vh m.handlers) (a:Nat) (r:Int) (hr:goAt (handler E.f.classes m a (obj h o).cls)=r) :
  Calls Try.prog 108 #[.pointer (some ⟨E.hb,0,none⟩),.agg #[vp,.int .i64 m.ret.kind,.int .i64 m.ret.cls,.int .i64 m.stack,.int .i64 m.locals,.int .i64 m.regs,vc,vh],.int .i64 a] w fun e w'=>e=.returned (.int .i64 r)∧Below w.heap.size w w':=by
 have HH:=Lib.hid H;have hhb:=H.rows.base.2;have c13:w.cell? ⟨E.hb,13,none⟩=some (.int .i64 (o:Int)):=H.c13;have hB:=Lib.hid (show E.B≤w.heap.size from Nat.le_trans H.rows.base.1 (Nat.le_of_lt hhb));obtain ⟨g,cap,hvb,c1,c2,hg,hgne,o1,_⟩:=H.ob (n:=o) (by omega) (by omega)
 obtain ⟨ca,ccap,hvc,HC⟩:=H.cls;have b0:=H.c0;have b2:=H.c2;rw [hvb] at b2;rw [hvc] at b0 HC;rw [Int.toNat_natCast] at o1;replace HC:=Lib.hid HC;have hwf:=Lib.hid (Hier.wf_of_may hm);obtain ⟨ha,hcap,rfl,h1,h2,hel⟩:=hh;obtain ⟨cl,hcl⟩:∃ cl,Hid ((obj h o).cls=cl):=⟨_,rfl⟩;rw [hcl.out] at o1 hr;have hoi:(o:Int) < h.objs.length:=by omega
 replace hr:=Lib.hid hr;have hdrop:Hid (handler E.f.classes m a cl=(m.handlers.drop 0).find? fun x=>decide (x.lo≤(a:Int)) && decide ((a:Int) < x.hi) && Hier.is E.f.classes cl x.cls):=rfl;clear H hvb hvc
 go_enter Try.func108,Try.ntmps108
 go_wp2
 go_loopw [7] (fun i wr=>∃ n:Nat,i=.int .i64 n∧n≤m.handlers.length∧Below w.heap.size w wr∧w.heap.size < wr.heap.size∧wr.cell? ⟨w.heap.size,7,none⟩=some (.slice ha m.handlers.length hcap)∧Hid (handler E.f.classes m a cl=(m.handlers.drop n).find? fun x=>decide (x.lo≤(a:Int)) && decide ((a:Int) < x.hi) && Hier.is E.f.classes cl x.cls)) (fun i _=>m.handlers.length - (intOf i).toNat)
 case atStart=>exact ⟨0,rfl,Nat.zero_le _,by exact Rd.byB,by simp,by go_simp,hdrop⟩
 case round =>
  obtain ⟨n,rfl,hn,hb,hsz,hc7,hall⟩:=hrel;have hBW:=Lib.hid hb
  by_cases hlt:n < m.handlers.length
  ·obtain ⟨xb,xo,rfl,hxb,he⟩:=hel n hlt;obtain ⟨x,hx⟩:=at_of hlt;rw [hx.out] at he;obtain ⟨x0,x1,x2,x3,_⟩:=he;have hlx:xb < w.heap.size:=Nat.lt_of_lt_of_le hxb hB.out;have x0':=kept hb hlx x0;have x1':=kept hb hlx x1;have x2':=kept hb hlx x2;have x3':=kept hb hlx x3;have b0':=kept hb hhb b0;have b2':=kept hb hhb b2;have c13':=kept hb hhb c13;have o1':=kept hb hg o1;have hni:(n:Int) < m.handlers.length:=by omega
   have hd:=Lib.hid (show m.handlers.drop n=x :: m.handlers.drop (n+1) from by rw [List.drop_eq_getElem_cons hlt,hx.out])
   obtain ⟨p,hp⟩:∃ p,Hid (Hier.is E.f.classes cl x.cls=p):=⟨_,rfl⟩;clear hel x0 x1 x2 x3 b0 b2 c13 o1 hb;have hhb2:E.hb < wr.heap.size:=Nat.lt_of_lt_of_le hhb hBW.out.size;have hg2:g < wr.heap.size:=Nat.lt_of_lt_of_le hg hBW.out.size
   by_cases q1:x.lo≤a
   ·have q1b:decide (x.lo≤(a:Int))=true:=by simpa using q1
    by_cases q2:(a:Int) < x.hi
    ·have q2b:decide ((a:Int) < x.hi)=true:=by simpa using q2
     cases p
     ·have hnx:Hid (handler E.f.classes m a cl=(m.handlers.drop (n+1)).find? fun x=>decide (x.lo≤(a:Int)) && decide ((a:Int) < x.hi) && Hier.is E.f.classes cl x.cls):=by
       show _=_
       rw [hall.out,hd.out,List.find?_cons,hp.out];simp
      go_wp2
      go_quiet ((go_at_call 154;exact quiet_eq (rbelowV _ E.f.classes _ _ _ _ hp.out (HC.out.next (hBW.out.trans (below_drewN (by exact Rd.byB) _))) hwf.out)))
      go_wp2
      go_roundw
      case rel=>exact ⟨n+1,by go_num,by omega,hBW.out.trans (below_drewN (by exact Rd.byB) _),by simp;omega,by go_simp,hnx⟩
      case measure=>simp [intOf];omega
     ·have hnx:Hid (x.go=r):=by
       show _=_
       rw [← hr.out,hall.out,hd.out,List.find?_cons,hp.out];simp [q1,q2,goAt]
      go_wp2
      go_quiet ((go_at_call 154;exact quiet_eq (rbelowV _ E.f.classes _ _ _ _ hp.out (HC.out.next (hBW.out.trans (below_drewN (by exact Rd.byB) _))) hwf.out)))
      go_wp2
      go_ret;exact ⟨ret_int hnx.out,hBW.out.trans (below_drewN (by exact Rd.byB) _)⟩
    ·have q2b:decide ((a:Int) < x.hi)=false:=by simpa using q2
     have hnx:Hid (handler E.f.classes m a cl=(m.handlers.drop (n+1)).find? fun x=>decide (x.lo≤(a:Int)) && decide ((a:Int) < x.hi) && Hier.is E.f.classes cl x.cls):=by
      show _=_
      rw [hall.out,hd.out,List.find?_cons];simp [q2]
     clear hp
     go_wp2
     go_quiet (fail)
     go_wp2
     go_roundw
     case rel=>exact ⟨n+1,by go_num,by omega,hBW.out.trans (below_drewN (by exact Rd.byB) _),by simp;omega,by go_simp,hnx⟩
     case measure=>simp [intOf];omega
   ·have q1b:decide (x.lo≤(a:Int))=false:=by simpa using q1
    have hnx:Hid (handler E.f.classes m a cl=(m.handlers.drop (n+1)).find? fun x=>decide (x.lo≤(a:Int)) && decide ((a:Int) < x.hi) && Hier.is E.f.classes cl x.cls):=by
     show _=_
     rw [hall.out,hd.out,List.find?_cons];simp [q1]
    clear hp
    go_wp2
    go_quiet (fail)
    go_wp2
    go_roundw
    case rel=>exact ⟨n+1,by go_num,by omega,hBW.out.trans (below_drewN (by exact Rd.byB) _),by simp;omega,by go_simp,hnx⟩
    case measure=>simp [intOf];omega
  ·obtain rfl:n=m.handlers.length:=by omega
   have hnx:Hid (-1=r):=by
    show _=_
    rw [← hr.out,hall.out,List.drop_length];rfl
   clear hb
   go_wp2
   go_ret;exact ⟨ret_int hnx.out,hBW.out⟩
end
end Rhw
namespace Rhw
open Num Rd D Run Mem HierW Hpw
theorem loseR {w:World}{lb:Nat}{l:List Vl}(H:Blk w lb (vcells l)) (hP:Paired l) (k:Nat) (hk:k < l.length) (h1000:l.length≤1000) :
  Calls Try.prog 153 #[.slice (some ⟨lb,0,none⟩) l.length l.length,.int .i64 k] w fun e w'=>e=.returned (.tuple #[])∧Blk w' lb (vcells (lose l k))∧Kp (· = lb) w w':=by
 obtain ⟨c0,c1,f0,f1⟩:=Blk.getV H hk;have HH:=Lib.hid H;obtain ⟨x,hx⟩:∃ x,Hid (l.getD k Vl.nil=x):=⟨_,rfl⟩;rw [hx.out] at c0 c1
 by_cases q9:x.kind=9
 ·have h0:=(hP.2 k (by unfold kd;rw [hx.out];exact q9)).1
  obtain ⟨j,rfl⟩:∃ j,k=j+1:=⟨k - 1,by omega⟩
  obtain ⟨d0,d1,g0,g1⟩:=Blk.getV H (i:=j) (by omega)
  have hR:Hid (lose l (j+1)=(l.set j Vl.nil).set (j+1) Vl.nil):=by show _=_;unfold lose;rw [hx.out,if_pos q9];rfl
  have qb:(x.kind==9)=true:=by simpa using q9
  clear H q9
  go_enter Try.func153,Try.ntmps153
  go_wp2
  go_end0
  refine ⟨rfl,?_,kp_setV (kp_setV (Kp.refl (fun x=>x=lb) w) (.inl rfl) _ _ _ _) (.inl rfl) _ _ _ _⟩;rw [hR.out];exact Blk.setV (Blk.setV HH.out (i:=j) (by omega) Vl.nil) (i:=j+1) (by simpa using hk) Vl.nil
 ·have qb:(x.kind==9)=false:=by simpa using q9
  by_cases q2:x.kind=2
  ·have h0:=pair_lt hP (by unfold kd;rw [hx.out];exact q2)
   obtain ⟨d0,d1,g0,g1⟩:=Blk.getV H (i:=k+1) h0;have hR:Hid (lose l k=(l.set (k+1) Vl.nil).set k Vl.nil):=by show _=_;unfold lose;rw [hx.out,if_neg q9,if_pos q2]
   have qb2:(x.kind==2)=true:=by simpa using q2
   clear H q9 q2
   go_enter Try.func153,Try.ntmps153
   go_wp2
   go_end0
   refine ⟨rfl,?_,kp_setV (kp_setV (Kp.refl (fun x=>x=lb) w) (.inl rfl) _ _ _ _) (.inl rfl) _ _ _ _⟩;rw [hR.out];exact Blk.setV (Blk.setV HH.out (i:=k+1) h0 Vl.nil) (i:=k) (by simpa using hk) Vl.nil
  ·have hR:Hid (lose l k=l.set k Vl.nil):=by show _=_;unfold lose;rw [hx.out,if_neg q9,if_neg q2]
   have qb2:(x.kind==2)=false:=by simpa using q2
   clear H q9 q2
   go_enter Try.func153,Try.ntmps153
   go_wp2
   go_end0
   refine ⟨rfl,?_,kp_setV (Kp.refl (fun x=>x=lb) w) (.inl rfl) _ _ _ _⟩;rw [hR.out];exact Blk.setV HH.out hk Vl.nil
theorem loseR_at {w:World}{lb:Nat}{l:List Vl}(n:Nat) (hn:n=l.length) (H:Blk w lb (vcells l)) (hP:Paired l) (k:Nat) (hk:k < l.length) (h1000:l.length≤1000) :
  Calls Try.prog 153 #[.slice (some ⟨lb,0,none⟩) n n,.int .i64 k] w fun e w'=>e=.returned (.tuple #[])∧Blk w' lb (vcells (lose l k))∧Kp (· = lb) w w':=by
 subst hn;exact loseR H hP k hk h1000
theorem storeR {w:World}{lb:Nat}{l:List Vl}(H:Blk w lb (vcells l)) (hlb:lb < w.heap.size) (hP:Paired l) (k:Nat) (v:Vl) (hk:k+width v≤l.length) (h1000:l.length≤1000) :
  Calls Try.prog 101 #[.slice (some ⟨lb,0,none⟩) l.length l.length,.int .i64 k,.agg #[.int .i64 v.kind,.int .i64 v.n]] w fun e w'=>e=.returned (.tuple #[])∧Blk w' lb (vcells (Run.store l k v))∧Kp (· = lb) w w':=by
 have HH:=Lib.hid H;obtain ⟨kd,n⟩:=v;have hl1:=lose_len l k
 by_cases q:kd=2
 ·subst q;have hk2:k+2≤l.length:=by simpa [width] using hk
  have hl2:=lose_len (lose l k) (k+1);have hR:Hid (Run.store l k ⟨2,n⟩=((lose (lose l k) (k+1)).set (k+1) ⟨9,0⟩).set k ⟨2,n⟩):=by show _=_;unfold Run.store;rw [if_pos rfl]
  have hP1:=Lib.hid (lose_paired hP k);have hPh:=Lib.hid hP;have e1:=Lib.hid hl1;have e2:=Lib.hid hl2;clear H hl1 hl2 hP hk
  go_enter Try.func101,Try.ntmps101
  go_wp2_with (first | (go_at_call 153;(with_reducible refine (loseR_at (l:=l) _ rfl (HH.out.next (Kp.of_below (X:=fun _=>False) (by exact Rd.byB) (Nat.le_refl _)) (fun e=>e)) hPh.out k (by omega) h1000).mono ?_);rintro e w1 ⟨rfl,H1,K1⟩;have y0:=K1.cell (c:=w.heap.size) (o:=0) (v:=.int .i64 2) (by go_simp) (by omega);have y1:=K1.cell (c:=w.heap.size) (o:=1) (v:=.int .i64 n) (by go_simp) (by omega);have sz:=K1.size;replace H1:=Lib.hid H1;replace K1:=Lib.hid K1) | (go_at_call 153;refine (loseR_at (l:=lose l k) _ e1.out.symm H1.out hP1.out (k+1) (by rw [e1.out];omega) (by rw [e1.out];omega)).mono ?_;rintro e w2 ⟨rfl,H2,K2⟩;replace y0:=K2.cell (c:=w.heap.size) (o:=0) y0 (by omega);replace y1:=K2.cell (c:=w.heap.size) (o:=1) y1 (by omega);obtain ⟨d0,d1,d2,d3⟩:=Blk.getV H2 (i:=k+1) (by rw [e2.out,e1.out];omega);obtain ⟨d4,d5,d6,d7⟩:=Blk.getV H2 (i:=k) (by rw [e2.out,e1.out];omega);replace H2:=Lib.hid H2;replace K2:=Lib.hid K2))
  go_end0
  refine ⟨rfl,?_,kp_setV (kp_setV (((Kp.of_below (B:=w.heap.size) (X:=fun x=>x=lb) (by exact Rd.byB) (Nat.le_refl _)).trans K1.out (fun _ h=>.inl h)).trans K2.out (fun _ h=>.inl h)) (.inl rfl) _ _ _ _) (.inl rfl) _ _ _ _⟩
  rw [hR.out];exact Blk.setV (Blk.setV H2.out (i:=k+1) (by rw [e2.out,e1.out];omega) ⟨9,0⟩) (i:=k) (by rw [List.length_set,e2.out,e1.out];omega) ⟨2,n⟩
 ·have qb:(kd==2)=false:=by simpa using q
  have hk1:k+1≤l.length:=by simpa [width,q] using hk
  have hR:Hid (Run.store l k ⟨kd,n⟩=(lose l k).set k ⟨kd,n⟩):=by show _=_;unfold Run.store;rw [if_neg q]
  have hPh:=Lib.hid hP;have e1:=Lib.hid hl1;clear H hl1 hP hk q
  go_enter Try.func101,Try.ntmps101
  go_wp2_with ((go_at_call 153;(with_reducible refine (loseR_at (l:=l) _ rfl (HH.out.next (Kp.of_below (X:=fun _=>False) (by exact Rd.byB) (Nat.le_refl _)) (fun e=>e)) hPh.out k (by omega) h1000).mono ?_);rintro e w1 ⟨rfl,H1,K1⟩;have y0:=K1.cell (c:=w.heap.size) (o:=0) (v:=.int .i64 kd) (by go_simp) (by omega);have y1:=K1.cell (c:=w.heap.size) (o:=1) (v:=.int .i64 n) (by go_simp) (by omega);obtain ⟨d4,d5,d6,d7⟩:=Blk.getV H1 (i:=k) (by rw [e1.out];omega);replace H1:=Lib.hid H1;replace K1:=Lib.hid K1))
  go_end0
  refine ⟨rfl,?_,kp_setV ((Kp.of_below (B:=w.heap.size) (X:=fun x=>x=lb) (by exact Rd.byB) (Nat.le_refl _)).trans K1.out (fun _ h=>.inl h)) (.inl rfl) _ _ _ _⟩
  rw [hR.out];exact Blk.setV H1.out (i:=k) (by rw [e1.out];omega) ⟨kd,n⟩
theorem sizeR {w:World}{X:Nat→Prop}{v:Value}{l:List Vl}(H:VS w X v l) (h1000:l.length≤1000) :
  Calls Try.prog 102 #[v] w fun e w'=>e=.returned (.int .i64 (size l))∧w=w':=by
 obtain ⟨a,cap,rfl,c1,c2⟩:=H.len;have HH:=Lib.hid H;clear H
 go_enter Try.func102,Try.ntmps102
 go_wp2
 go_loop [3,4] (fun n i=>∃ k:Nat,i=.int .i64 k∧k≤l.length∧n=.int .i64 (l.length+twos (l.take k):Nat)) (fun _ i=>l.length - (intOf i).toNat)
 case atStart=>exact ⟨0,rfl,Nat.zero_le _,by simp [twos]⟩
 case round =>
  obtain ⟨k,rfl,hk,rfl⟩:=hrel
  by_cases hlt:k < l.length
  ·obtain ⟨b,o,cap',hx,_,_,hb,_,hel⟩:=HH.out.form (by omega)
   simp only [Value.slice.injEq,true_and] at hx;obtain ⟨rfl,rfl⟩:=hx;obtain ⟨z0,_⟩:=hel k hlt;have ht:=Lib.hid (show l.take (k+1)=l.take k++[l[k]] from by rw [List.take_succ_eq_append_getElem hlt])
   obtain ⟨x,hx⟩:=at_of hlt;rw [hx.out] at z0 ht;have hle:=twos_le (l.take k);have hle2:(l.take k).length≤k:=List.length_take_le _ _;obtain ⟨t,hT⟩:∃ t,Hid (twos (l.take k)=t):=⟨_,rfl⟩;rw [hT.out] at hle ⊢;have hS:Hid (twos (l.take (k+1))=t+if x.kind=2 then 1 else 0):=by show _=_;rw [ht.out,twos_snoc,hT.out]
   clear hel
   by_cases q:x.kind=2
   ·have qb:(x.kind==2)=true:=by simpa using q
    replace hS:Hid (twos (l.take (k+1))=t+1):=by show _=_;rw [hS.out,if_pos q]
    clear q
    go_wp2
    go_round
    case rel=>exact ⟨k+1,by go_num,by omega,by rw [hS.out];go_num⟩
    case measure=>simp [intOf];omega
   ·have qb:(x.kind==2)=false:=by simpa using q
    replace hS:Hid (twos (l.take (k+1))=t):=by show _=_;rw [hS.out,if_neg q];rfl
    clear q
    go_wp2
    go_round
    case rel=>exact ⟨k+1,by go_num,by omega,by rw [hS.out]⟩
    case measure=>simp [intOf];omega
  ·obtain rfl:k=l.length:=by omega
   go_wp2
   go_ret;exact ⟨ret_int (by have:=size_twos l;omega),rfl⟩
end Rhw
namespace Rhw
open Num Rd D Run Mem HierW Hpw
structure Pl where
 cb:Nat
 lb:Nat
 vp:Value
 vc:Value
 vh:Value
 Z:Nat→Prop
def KX (E:Ev) (L:RL) (P:Pl) (k:Nat):Prop:=own E L k∨k=P.cb∨k=P.lb
section
variable {E:Ev}{w w' w1 w2 w3:World}{L L':RL}{h h':Hp}{d:Nat}{s:Sv}{P:Pl}{m:Me}
theorem info_val:(Try.prog.info? 104).map (fun i=>(i.zero,i.size,i.bytes))=some (some (.agg #[.int .i64 0,.int .i64 0]),2,16):=by kernel_rfl
theorem vcells_rep:∀ n:Nat,vcells (List.replicate n Vl.nil)=List.replicate (n*2) (.int .i64 0):=by
 intro n
 induction n with
 | zero=>rfl
 | succ n ih=>rw [show (n+1)*2=n*2+1+1 by omega,List.replicate_succ,List.replicate_succ,List.replicate_succ,← ih];rfl
theorem mkVals (n:Nat) (hn:n≤1000) (w:World):∃ w',(Instr.makeSlice 100 (.int .i64 (n:Int)) (.int .i64 (n:Int))).run Try.prog w=.ok (.slice (some ⟨w.heap.size,0,none⟩) n n) w'∧Blk w' w.heap.size (vcells (List.replicate n Vl.nil))∧Below w.heap.size w w'∧w.heap.size < w'.heap.size:=by
 obtain ⟨i,hi,hz,h1,h2⟩:=info_parts info_val;obtain ⟨w',hrun,hown,hg⟩:=run_make_full (P:=Try.prog) (w:=w) w.heap.size 100 104 i (.agg #[.int .i64 0,.int .i64 0]) 2 Try.underlying100 hi hz h1 .i64 .i64 n (by rw [h2];omega) (by unfold maxLen;omega) (Nat.le_refl _)
 refine ⟨w',hrun,fun j hj=>?_,?_,(World.ownsRow.lt hown _ rfl).2⟩
 ·have hj2:(madeCells (Value.agg #[.int .i64 0,.int .i64 0]).cells (n*2)).toList[j]? = some ((vcells (List.replicate n Vl.nil))[j]):=by
   have hl:j < n*2:=by rw [vcells_len,List.length_replicate] at hj;exact hj
   have e2:(vcells (List.replicate n Vl.nil))[j]=.int .i64 0:=by
    have:=vcells_rep n
    simp only [this,List.getElem_replicate]
   rw [e2];have e3:(j % 2=0)∨(j % 2=1):=by omega
   rcases e3 with e3 | e3 <;> simp [madeCells,Value.cells,hl,e3]
  exact ⟨row_cell hown hj2,row_free hown⟩
 ·exact (Kp.of_grown (X:=fun _=>False) hg (fun k e=>by cases e)).below (Nat.le_refl _) (fun _ e=>e.elim)
end
end Rhw
namespace Rhw
open Num Rd D Run Mem HierW Hpw
section
variable {E:Ev}{w w' w1 w2 w3:World}{L L':RL}{h h':Hp}{d:Nat}{s:Sv}{P:Pl}{m:Me}
def RRm (E:Ev) (L:RL) (d:Nat) (k n:Int) (w w':World) (r:Res Vl):Prop:=match r with
 | .ok a h'=>(k=a.kind∧n=a.n)∧RL2 E L d w w' h' Sv.run
 | .thrown o h'=>RL2 E L d w w' h' (Sv.thr o)
 | .stop c h'=>RL2 E L d w w' h' (Sv.ends c)
theorem rrv_m {r:Res Vl}{e:Ending}(H:RRv E L d w r e w'):∃ k n:Int,e=.returned (.agg #[.int .i64 k,.int .i64 n])∧RRm E L d k n w w' r:=H
theorem rrm_kp {k n:Int}{r:Res Vl}(H:RRm E L d k n w w' r):Kp (own E L) w w':=by
 cases r with
 | ok a h'=>obtain ⟨_,L',K,_⟩:=H;exact K
 | thrown o h'=>obtain ⟨L',K,_⟩:=H;exact K
 | stop c h'=>obtain ⟨L',K,_⟩:=H;exact K
end
end Rhw
namespace Run
open D
theorem size_appG (a b:List Vl):size (a++b)=size a+size b:=by
 induction a with
 | nil=>simp [size]
 | cons v l ih=>simp only [List.cons_append,size,ih];omega
theorem stores_app:∀ (vs us:List Vl) (l:List Vl) (a:Nat),stores l a (vs++us)=stores (stores l a vs) (a+size vs) us:=by
 intro vs
 induction vs with
 | nil=>intro us l a;simp [stores,size]
 | cons v vs ih=>intro us l a;simp only [List.cons_append,stores,size,ih];congr 1;omega
theorem stores_take {args:List Vl}{i:Nat}(hi:i < args.length) (l:List Vl):stores l 0 (args.take (i+1))=store (stores l 0 (args.take i)) (size (args.take i)) args[i]:=by
 rw [List.take_succ_eq_append_getElem hi,stores_app];simp [stores]
theorem size_take {args:List Vl}{i:Nat}(hi:i < args.length):size (args.take (i+1))=size (args.take i)+width args[i]:=by
 rw [List.take_succ_eq_append_getElem hi,size_appG];simp [size]
theorem size_take_le {args:List Vl}:∀ i,size (args.take i)≤size args:=by
 intro i
 have:=size_appG (args.take i) (args.drop i)
 rw [List.take_append_drop] at this;omega
end Run
namespace Rhw
open Num Rd D Run Mem HierW Hpw
section
variable {E:Ev}{w w' w1 w2 w3:World}{L L':RL}{h h':Hp}{d:Nat}{s:Sv}{P:Pl}{m:Me}
theorem enterF (H:RH E w L h d Sv.run) (hm:Hier.may E.f.classes=true){vp vc vh va:Value}(m:Me) (hp:Sl 2 ETy w E.B vp m.params) (args:List Vl) (X:Nat→Prop) (ha:VS w X va args) (hX:X E.hb) (hl:args.length=m.params.length) (hv:∀ v∈args,v.kind=3→v.n < h.objs.length) (hd:d≤20) (c:Int) (hc:(allOf E.f.classes h args m.params=false∧c=6)∨(allOf E.f.classes h args m.params=true∧20≤d∧c=5)) :
  Calls Try.prog 100 #[.pointer (some ⟨E.hb,0,none⟩),.agg #[vp,.int .i64 m.ret.kind,.int .i64 m.ret.cls,.int .i64 m.stack,.int .i64 m.locals,.int .i64 m.regs,vc,vh],va] w (Keeps E L h d (Sv.ends c) w (.bool false)) :=
 (enter H hm m hp args X ha hX hl hv hd).mono fun _ _ R=>by
  rcases R with ⟨q,R⟩ | ⟨q,q2,R⟩ | ⟨q,q2,R⟩
  ·rcases hc with ⟨_,rfl⟩ | ⟨h1,_⟩
   ·exact R
   ·rw [q] at h1;cases h1
  ·rcases hc with ⟨h1,_⟩ | ⟨_,_,rfl⟩
   ·rw [q] at h1;cases h1
   ·exact R
  ·rcases hc with ⟨h1,_⟩ | ⟨_,h2,_⟩
   ·rw [q] at h1;cases h1
   ·omega
theorem enterT (H:RH E w L h d Sv.run) (hm:Hier.may E.f.classes=true){vp vc vh va:Value}(m:Me) (hp:Sl 2 ETy w E.B vp m.params) (args:List Vl) (X:Nat→Prop) (ha:VS w X va args) (hX:X E.hb) (hl:args.length=m.params.length) (hv:∀ v∈args,v.kind=3→v.n < h.objs.length) (hd:d < 20) (hc:allOf E.f.classes h args m.params=true) :
  Calls Try.prog 100 #[.pointer (some ⟨E.hb,0,none⟩),.agg #[vp,.int .i64 m.ret.kind,.int .i64 m.ret.cls,.int .i64 m.stack,.int .i64 m.locals,.int .i64 m.regs,vc,vh],va] w (Keeps E L h (d+1) Sv.run w (.bool true)) :=
 (enter H hm m hp args X ha hX hl hv (by omega)).mono fun _ _ R=>by
  rcases R with ⟨q,R⟩ | ⟨q,q2,R⟩ | ⟨q,q2,R⟩
  ·rw [q] at hc;cases hc
  ·omega
  ·exact R
theorem name_w {G:World→Prop}{w:World}(R:World→Prop) (hR:R w) (h:∀ W,R W→G W):G w:=h w hR
theorem VS.mid {w:World}{X:Nat→Prop}{b o n cap i:Nat}{l:List Vl}(h:VS w X (.slice (some ⟨b,o,none⟩) n cap) l) (hi:i < l.length):VS w X (.slice (some ⟨b,o+i*2,none⟩) 1 (cap - i)) [l[i]]:=by
 obtain ⟨a,c,h1,h2,h3,h4⟩:=h;simp only [Value.slice.injEq] at h1;obtain ⟨rfl,rfl,rfl⟩:=h1;refine ⟨_,_,rfl,by simp;omega,by omega,fun j hj=>?_⟩
 obtain ⟨b',o',e,hx,c1,c2⟩:=h4 i hi;simp only [Option.some.injEq,Addr.mk.injEq,and_true] at e;obtain ⟨rfl,rfl⟩:=e
 have:j=0:=by simpa using hj
 subst this;exact ⟨_,_,rfl,hx,by simpa using c1,by simpa using c2⟩
theorem storeAt {w:World}{lb:Nat}{l:List Vl}(n:Nat) (hn:n=l.length) (H:Blk w lb (vcells l)) (hlb:lb < w.heap.size) (hP:Paired l) (k:Nat) (v:Vl) (hk:k+width v≤l.length) (h1000:l.length≤1000) :
  Calls Try.prog 101 #[.slice (some ⟨lb,0,none⟩) n n,.int .i64 k,.agg #[.int .i64 v.kind,.int .i64 v.n]] w fun e w'=>e=.returned (.tuple #[])∧Blk w' lb (vcells (Run.store l k v))∧Kp (· = lb) w w':=by
 subst hn;exact storeR H hlb hP k v hk h1000
def stepsOf (E:Ev) (w:World):Nat:=match w.cell? ⟨E.hb,11,none⟩ with
 | some v=>(intOf v).toNat
 | none=>0
theorem steps_of (H:RH E w L h d s):stepsOf E w=h.steps:=by
 unfold stepsOf;rw [H.c11];simp [intOf]
theorem finR {W w2:World}{L2:RL}{h2:Hp}{r:Res Vl}{b:Nat}{x y:Int}(KW:Kp (own E L) w W) (K:Kp (KX E L P) W w2) (N:∀ k,own E L2 k→own E L k∨W.heap.size≤k) (hc:w.heap.size≤P.cb) (hl:w.heap.size≤P.lb) (hb:w.heap.size≤b) (hbW:b < W.heap.size) (hEB:E.B≤w.heap.size) (hold:∀ k,own E L k→k < w.heap.size) (H:RH E w2 L2 h2 (d+1) s)
  (hs:match r with
   | .ok a h'=>s=Sv.run∧h'=h2∧x=a.kind∧y=a.n
   | .thrown o h'=>s=Sv.thr o∧h'=h2
   | .stop c h'=>s=Sv.ends c∧h'=h2):RRv E L d w r (.returned (.agg #[.int .i64 x,.int .i64 y])) (((w2.setCell ⟨E.hb,4,none⟩ (.int .i64 d)).setCell ⟨b,0,none⟩ (.int .i64 x)).setCell ⟨b,1,none⟩ (.int .i64 y)):=by
 have H3:=RH.set H 4 (by decide) (.int .i64 d) (h':=h2) (d':=d) (s':=s) rfl rfl (by simp [cellsR])
 have K3:Kp (own E L) w (w2.setCell ⟨E.hb,4,none⟩ (.int .i64 d)):=(KW.trans K (fun k hk=>by
  rcases hk with hk | hk | hk
  ·exact .inl hk
  ·exact .inr (by omega)
  ·exact .inr (by omega))).setCell (p:=⟨E.hb,4,none⟩) (.inl (.inl rfl)) _
 have N3:∀ k,own E L2 k→own E L k∨w.heap.size≤k:=fun k hk=>by
  rcases N k hk with q | q
  ·exact .inl q
  ·have:=KW.size;exact .inr (by omega)
 have nb:E.B≤b∧¬ own E L2 b:=⟨by omega,fun hk=>by
  rcases N b hk with q | q
  ·have:=hold b q;omega
  ·omega⟩
 have R2:RL2 E L d w (((w2.setCell ⟨E.hb,4,none⟩ (.int .i64 d)).setCell ⟨b,0,none⟩ (.int .i64 x)).setCell ⟨b,1,none⟩ (.int .i64 y)) h2 s:=⟨L2,kres2 K3 hb _ _,N3,H3.res2 nb _ _⟩;refine ⟨x,y,rfl,?_⟩
 cases r with
 | ok a h'=>obtain ⟨rfl,rfl,rfl,rfl⟩:=hs;exact ⟨⟨rfl,rfl⟩,R2⟩
 | thrown o h'=>obtain ⟨rfl,rfl⟩:=hs;exact R2
 | stop c h'=>obtain ⟨rfl,rfl⟩:=hs;exact R2
theorem rrv_below {r:Res Vl}{e:Ending}{w1 w2:World}(R:RRv E L d w r e w1) (hb:Below w1.heap.size w1 w2):RRv E L d w r e w2:=by
 obtain ⟨x,y,rfl,R⟩:=R;refine ⟨x,y,rfl,?_⟩
 cases r with
 | ok a h'=>obtain ⟨h1,L',K,N,H⟩:=R;exact ⟨h1,L',kb K hb,N,H.below hb⟩
 | thrown o h'=>obtain ⟨L',K,N,H⟩:=R;exact ⟨L',kb K hb,N,H.below hb⟩
 | stop c h'=>obtain ⟨L',K,N,H⟩:=R;exact ⟨L',kb K hb,N,H.below hb⟩
end
end Rhw
namespace Rhw
open Num Rd D Run Mem HierW Hpw
section
variable {E:Ev}{w w':World}{L L':RL}{h h':Hp}{d:Nat}{s:Sv}
def DoneR (E:Ev) (L:RL) (w:World) (h:Hp) (x y z:Int) (e:Ending) (w':World):Prop :=
 e=.returned (.agg #[.int .i64 x,.int .i64 y,.int .i64 z,L.vo,.int .i64 h.used,.int .i64 h.steps])∧RB E w' L h∧Kp (own E L) w w'
theorem own_sl {w:World}{B:Nat}{T:TypeId}{sz n:Nat}{v:Value}{xs:List Value}(h:w.ownsRow B T sz v n xs):∃ a m cap,v=.slice a m cap:=by
 rcases h.2 with ⟨h0,_⟩ | ⟨g,cap,cur,h0,_⟩
 ·exact ⟨_,_,_,h0⟩
 ·exact ⟨_,_,_,h0⟩
theorem RH.out_form (H:RH E w L h d s):∃ a n cap,L.vo=.slice a n cap:=own_sl H.rows.out
theorem done_of {w2 w3:World}{x y z:Int}(H:RH E w L h d s) (vo:Value) (hvo:L.vo=vo) (K:Kp (fun k=>k=E.hb) w w2) (hb:Below w2.heap.size w2 w3):DoneR E L w h x y z (.returned (.agg #[.int .i64 x,.int .i64 y,.int .i64 z,vo,.int .i64 h.used,.int .i64 h.steps])) w3:=by
 subst hvo;have K3:=kb K hb;exact ⟨rfl,H.rows.keep K3 (fun k hk=>by subst hk;exact ⟨H.rows.base.1,H.rows.hb⟩),K3.mono (fun k hk=>.inl hk)⟩
theorem doneE {c:Int}(H:RH E w L h d (Sv.ends c)) (x y:Int):Calls Try.prog 56 #[.pointer (some ⟨E.hb,0,none⟩),.agg #[.int .i64 x,.int .i64 y]] w (DoneR E L w h c 0 0):=by
 have HH:=Lib.hid H;obtain ⟨oa,on,ocap,hvo⟩:=H.out_form;have c6:w.cell? ⟨E.hb,6,none⟩=some (.int .i64 c):=H.c6;have c7:w.cell? ⟨E.hb,7,none⟩=some (.int .i64 0):=(H.cells 7 (by simp [cellsR])).1
 have c8:w.cell? ⟨E.hb,8,none⟩=some (.int .i64 0):=(H.cells 8 (by simp [cellsR])).1
 have c9:=H.c9;have c10:=H.c10;have c11:=H.c11;have c12:w.cell? ⟨E.hb,12,none⟩=some (.bool true):=H.c12;have hhb:=H.rows.base.2;have hhb1:E.hb < w.heap.size+1:=by omega
 rw [hvo] at c9;have hvo':=Lib.hid hvo;clear H hvo
 go_enter Try.func56,Try.ntmps56
 go_wp2
 refine bodyPost_ret (v:=.agg #[.int .i64 c,.int .i64 0,.int .i64 0,.slice oa on ocap,.int .i64 h.used,.int .i64 h.steps]) (by simp [results,Try.results56,go_sem] <;> go_simp) rfl ?_
 exact done_of HH.out _ hvo'.out (Kp.refl _ w) (by exact Rd.byB)
theorem doneT {o:Nat}(H:RH E w L h d (Sv.thr o)) (ho:o < h.objs.length) (x y:Int):Calls Try.prog 56 #[.pointer (some ⟨E.hb,0,none⟩),.agg #[.int .i64 x,.int .i64 y]] w (DoneR E L w h 2 0 (obj h o).cls):=by
 have HH:=Lib.hid H;obtain ⟨oa,on,ocap,hvo⟩:=H.out_form;have c7:w.cell? ⟨E.hb,7,none⟩=some (.int .i64 0):=(H.cells 7 (by simp [cellsR])).1
 have c8:w.cell? ⟨E.hb,8,none⟩=some (.int .i64 0):=(H.cells 8 (by simp [cellsR])).1
 have c6:w.cell? ⟨E.hb,6,none⟩=some (.int .i64 0):=H.c6;have f6:=H.fz 6 (by decide)
 have f7:=H.fz 7 (by decide)
 have f8:=H.fz 8 (by decide)
 have c9:=H.c9;have c10:=H.c10;have c11:=H.c11;have c12:w.cell? ⟨E.hb,12,none⟩=some (.bool false):=H.c12;have hhb:=H.rows.base.2;have hhb1:E.hb < w.heap.size+1:=by omega
 rw [hvo] at c9;have hvo':=Lib.hid hvo;have c13:w.cell? ⟨E.hb,13,none⟩=some (.int .i64 (o:Int)):=H.c13;obtain ⟨g,cap,hvb,k1,k2,k3,k4,k5,_⟩:=H.ob (n:=(o:Int)) (by omega) (by omega)
 have c2:=H.c2;rw [hvb] at c2;have k6:=k4.symm;have k7:g < w.heap.size+1:=by omega
 have ho1:(o:Int) < h.objs.length:=by omega
 have ho0:(0:Int)≤(o:Int):=by omega
 simp only [Int.toNat_natCast] at k5;clear H hvo hvb
 go_enter Try.func56,Try.ntmps56
 go_wp2
 go_region
 go_wp2
 refine bodyPost_ret (v:=.agg #[.int .i64 2,.int .i64 0,.int .i64 (obj h o).cls,.slice oa on ocap,.int .i64 h.used,.int .i64 h.steps]) (by simp [results,Try.results56,go_sem] <;> go_simp) rfl ?_
 exact done_of HH.out _ hvo'.out (((Kp.refl (fun k=>k=E.hb) w).setCell (p:=⟨E.hb,6,none⟩) (.inl rfl) (.int .i64 2)).setCell (p:=⟨E.hb,8,none⟩) (.inl rfl) (.int .i64 (obj h o).cls)) (by exact Rd.byB)
theorem doneO (H:RH E w L h d Sv.run) (x y z:Int) (hz:z=if x=1∨x=2 then y else 0):Calls Try.prog 56 #[.pointer (some ⟨E.hb,0,none⟩),.agg #[.int .i64 x,.int .i64 y]] w (DoneR E L w h 1 z 0):=by
 have HH:=Lib.hid H;obtain ⟨oa,on,ocap,hvo⟩:=H.out_form;have c7:w.cell? ⟨E.hb,7,none⟩=some (.int .i64 0):=(H.cells 7 (by simp [cellsR])).1
 have c8:w.cell? ⟨E.hb,8,none⟩=some (.int .i64 0):=(H.cells 8 (by simp [cellsR])).1
 have c6:w.cell? ⟨E.hb,6,none⟩=some (.int .i64 0):=H.c6;have f6:=H.fz 6 (by decide)
 have f7:=H.fz 7 (by decide)
 have f8:=H.fz 8 (by decide)
 have c9:=H.c9;have c10:=H.c10;have c11:=H.c11;have c12:w.cell? ⟨E.hb,12,none⟩=some (.bool false):=H.c12;have hhb:=H.rows.base.2;have hhb1:E.hb < w.heap.size+1:=by omega
 rw [hvo] at c9;have hvo':=Lib.hid hvo;have c13:w.cell? ⟨E.hb,13,none⟩=some (.int .i64 (-1)):=H.c13;clear H hvo
 by_cases q:x=1∨x=2
 ·rw [if_pos q] at hz;subst hz
  by_cases q1:x=1
  ·subst q1;clear q
   go_enter Try.func56,Try.ntmps56
   go_wp2
   refine bodyPost_ret (v:=.agg #[.int .i64 1,.int .i64 z,.int .i64 0,.slice oa on ocap,.int .i64 h.used,.int .i64 h.steps]) (by simp [results,Try.results56,go_sem] <;> go_simp) rfl ?_
   exact done_of HH.out _ hvo'.out (((Kp.refl (fun k=>k=E.hb) w).setCell (p:=⟨E.hb,6,none⟩) (.inl rfl) (.int .i64 1)).setCell (p:=⟨E.hb,7,none⟩) (.inl rfl) (.int .i64 z)) (by exact Rd.byB)
  ·obtain rfl:x=2:=by rcases q with q | q <;> omega
   clear q q1
   go_enter Try.func56,Try.ntmps56
   go_wp2
   refine bodyPost_ret (v:=.agg #[.int .i64 1,.int .i64 z,.int .i64 0,.slice oa on ocap,.int .i64 h.used,.int .i64 h.steps]) (by simp [results,Try.results56,go_sem] <;> go_simp) rfl ?_
   exact done_of HH.out _ hvo'.out (((Kp.refl (fun k=>k=E.hb) w).setCell (p:=⟨E.hb,6,none⟩) (.inl rfl) (.int .i64 1)).setCell (p:=⟨E.hb,7,none⟩) (.inl rfl) (.int .i64 z)) (by exact Rd.byB)
 ·rw [if_neg q] at hz;subst hz;have q1:(x==1)=false:=by simp;omega
  have q2:(x==2)=false:=by simp;omega
  clear q
  go_enter Try.func56,Try.ntmps56
  go_wp2
  refine bodyPost_ret (v:=.agg #[.int .i64 1,.int .i64 0,.int .i64 0,.slice oa on ocap,.int .i64 h.used,.int .i64 h.steps]) (by simp [results,Try.results56,go_sem] <;> go_simp) rfl ?_
  exact done_of HH.out _ hvo'.out ((Kp.refl (fun k=>k=E.hb) w).setCell (p:=⟨E.hb,6,none⟩) (.inl rfl) (.int .i64 1)) (by exact Rd.byB)
end
end Rhw
namespace Rhw
open Num Rd D Run Mem HierW Hpw
section
variable {w:World}{B:Nat}{f:Fi}
def BeginE (w:World) (c:Int) (e:Ending) (w':World):Prop:=e=.returned (.tuple #[.pointer none,.slice none 0 0,.int .i64 c])∧Below w.heap.size w w'
set_option maxRecDepth 100000 in
theorem begin1 {vf va vi:Value}(Hf:VFi w B vf f) (entry fuel:Int) (hq:FormR.within entry 0 (f.methods.length - 1)=false):Calls Try.prog 54 #[vf,.int .i64 entry,va,vi,.int .i64 fuel] w (BeginE w 4):=by
 obtain ⟨vc,vm,rfl,hc,hm⟩:=Hf;obtain ⟨a,cap,rfl,k1,k2,_⟩:=hc;obtain ⟨ma,mcap,rfl,k3,k4,_⟩:=hm;have HQ:=Lib.hid hq;clear hq
 go_enter Try.func54,Try.ntmps54
 go_wp2_with (go_at_call 50;with_reducible refine (FormR.wiV entry _ _ _ _ HQ.out).mono ?_;rintro e w2 ⟨rfl,rfl⟩)
 go_ret3
 exact ⟨rfl,by exact Rd.byB⟩
set_option maxRecDepth 100000 in
theorem begin2 {vf va vi:Value}(Hf:VFi w B vf f) (entry fuel:Int) (hq:FormR.within entry 0 (f.methods.length - 1)=true) (hq2:FormR.within fuel 0 60000=false):Calls Try.prog 54 #[vf,.int .i64 entry,va,vi,.int .i64 fuel] w (BeginE w 4):=by
 obtain ⟨vc,vm,rfl,hc,hm⟩:=Hf;obtain ⟨a,cap,rfl,k1,k2,_⟩:=hc;obtain ⟨ma,mcap,rfl,k3,k4,_⟩:=hm;have HQ:=Lib.hid hq;have HQ2:=Lib.hid hq2;clear hq hq2
 go_enter Try.func54,Try.ntmps54
 go_wp2_with (first | (go_at_call 50;with_reducible refine (FormR.wiV entry _ _ _ _ HQ.out).mono ?_;rintro e w2 ⟨rfl,rfl⟩) | (go_at_call 50;with_reducible refine (FormR.wiV fuel _ _ _ _ HQ2.out).mono ?_;rintro e w2 ⟨rfl,rfl⟩))
 go_ret3
 exact ⟨rfl,by exact Rd.byB⟩
set_option maxRecDepth 100000 in
theorem begin3 {vf va vi:Value}(Hf:VFi w B vf f) (entry fuel:Int) (hq:FormR.within entry 0 (f.methods.length - 1)=true) (hq2:FormR.within fuel 0 60000=true){input:List Int}(hi:Sl 1 EInt w B vi input) (h3:1000 < input.length):Calls Try.prog 54 #[vf,.int .i64 entry,va,vi,.int .i64 fuel] w (BeginE w 1):=by
 obtain ⟨vc,vm,rfl,hc,hm⟩:=Hf;obtain ⟨a,cap,rfl,k1,k2,_⟩:=hc;obtain ⟨ma,mcap,rfl,k3,k4,_⟩:=hm;obtain ⟨ia,icap,rfl,k5,k6,_⟩:=hi;have HQ:=Lib.hid hq;have HQ2:=Lib.hid hq2;have h3':(1000:Int) < input.length:=by omega
 clear hq hq2
 go_enter Try.func54,Try.ntmps54
 go_wp2_with (first | (go_at_call 50;with_reducible refine (FormR.wiV entry _ _ _ _ HQ.out).mono ?_;rintro e w2 ⟨rfl,rfl⟩) | (go_at_call 50;with_reducible refine (FormR.wiV fuel _ _ _ _ HQ2.out).mono ?_;rintro e w2 ⟨rfl,rfl⟩))
 go_ret3
 exact ⟨rfl,by exact Rd.byB⟩
set_option maxRecDepth 100000 in
theorem begin4 {vf va vi:Value}(Hf:VFi w B vf f) (hB:B≤w.heap.size) (k:Nat) (hk:k < f.methods.length) (fuel:Int) (hq:FormR.within k 0 (f.methods.length - 1)=true) (hq2:FormR.within fuel 0 60000=true){input args:List Int}(hi:Sl 1 EInt w B vi input) (h3:input.length≤1000) (ha:Sl 1 EInt w B va args) (h4:args.length≠(f.methods[k]).params.length):Calls Try.prog 54 #[vf,.int .i64 k,va,vi,.int .i64 fuel] w (BeginE w 3):=by
 obtain ⟨vc,vm,rfl,hc,hm⟩:=Hf;obtain ⟨a,cap,rfl,k1,k2,_⟩:=hc;obtain ⟨ma,mcap,rfl,k3,k4,hel⟩:=hm;obtain ⟨ia,icap,rfl,k5,k6,_⟩:=hi;obtain ⟨aa,acap,rfl,k7,k8,_⟩:=ha;obtain ⟨mb,mo,rfl,hmb,vp,vco,vh,m0,m1,m2,m3,m4,m5,m6,m7,mok,hp,hco,hh⟩:=hel k hk;obtain ⟨pa,pcap,rfl,k9,k10,_⟩:=hp;obtain ⟨ca,ccap,rfl,k11,k12,_⟩:=hco;obtain ⟨xa,xcap,rfl,k13,k14,_⟩:=hh;have HQ:=Lib.hid hq;have HQ2:=Lib.hid hq2;have h3':¬ (1000:Int) < input.length:=by omega
 have hk':(k:Int) < f.methods.length:=by omega
 have l1:mb < w.heap.size:=by omega
 have l2:mb < w.heap.size+1:=by omega
 have h4':((args.length:Int) != (f.methods[k].params.length:Int))=true:=by simp;omega
 have h4'':¬ (args.length:Int)=(f.methods[k].params.length:Int):=by omega
 clear hq hq2 hel
 go_enter Try.func54,Try.ntmps54
 go_wp2_with (first | (go_at_call 50;with_reducible refine (FormR.wiV k _ _ _ _ HQ.out).mono ?_;rintro e w2 ⟨rfl,rfl⟩) | (go_at_call 50;with_reducible refine (FormR.wiV fuel _ _ _ _ HQ2.out).mono ?_;rintro e w2 ⟨rfl,rfl⟩))
 go_ret3
 exact ⟨rfl,by exact Rd.byB⟩
end
end Rhw
namespace Hpw
open Num Rd D Run Mem HierW
section
variable {w:World}
theorem VS.of_row {base:Nat}{T:TypeId}{X:Nat→Prop}{v:Value}{l:List Vl}(H:w.ownsRow base T 2 v l.length (vcells l)) (hX:∀ k,X k→k < base):VS w X v l:=by
 by_cases h0:0 < l.length
 ·obtain ⟨g,cap,hv,c1,c2,c3,c4⟩:=row_form H h0;rw [hv] at H ⊢;refine ⟨_,cap,rfl,c1,c2,fun i hi=>⟨g,0,rfl,fun hx=>by have:=hX g hx;omega,?_,?_⟩⟩
  ·have:=row_cell H (vcells_get l i hi).1
   rw [Nat.zero_add,this,List.getD_eq_getElem?_getD,List.getElem?_eq_getElem hi];rfl
  ·have:=row_cell H (vcells_get l i hi).2
   rw [Nat.zero_add,this,List.getD_eq_getElem?_getD,List.getElem?_eq_getElem hi];rfl
 ·have hl:l=[]:=List.eq_nil_of_length_eq_zero (by omega)
  subst hl;obtain ⟨a,cap,hv⟩:=row_any H
  rcases H.2 with ⟨hn,_⟩ | ⟨g,cap',cur,hv',_,_,_,hm,_⟩
  ·rw [hn];exact VS.nil _ _
  ·rw [hv'];exact VS.zero (by unfold maxLen at hm;exact hm)
end
end Hpw
namespace Rhw
open Num Rd D Run Mem HierW Hpw
section
variable {w:World}{B:Nat}{f:Fi}
def argsTo (m:Me) (args:List Int) (n:Nat):List Vl:=(List.zipWith argOf m.params args).take n
def BegR (w:World) (f:Fi) (m:Me) (args input:List Int) (fuel:Int) (vc vm vi:Value) (e:Ending) (w':World):Prop :=
 if m.params.any (fun t=>decide (t.kind=3))=true then BeginE w 3 e w'
 else ∃ (hb:Nat) (vl:Value),e=.returned (.tuple #[.pointer (some ⟨hb,0,none⟩),vl,.int .i64 0])∧RH ⟨f,input,fuel.toNat,hb,w.heap.size,vc,vm,vi⟩ w' L0 h0 0 Sv.run∧VS w' (fun k=>k=hb) vl (List.zipWith argOf m.params args)∧Below w.heap.size w w'
theorem grow_kp {B n size:Nat}{T:TypeId}{v:Value}{xs:List Value}{wr W w2:World}(hW:Below wr.heap.size wr W) (hown:wr.ownsRow B T size v n xs) (hg:W.grownBy w2 v.ownBlock):Kp (fun k=>B≤k) wr w2 :=
 (kpB hW).trans (Kp.of_grown (X:=fun k=>B≤k) hg (fun k e=>(World.ownsRow.lt hown k e).1)) (fun _ h=>.inl h)
theorem argsTo_succ {m:Me}{args:List Int}{n:Nat}(h1:n < m.params.length) (h2:n < args.length):argsTo m args (n+1)=argsTo m args n++[argOf m.params[n] args[n]]:=by
 unfold argsTo;rw [List.take_succ_eq_append_getElem (by simp;omega)]
 simp
set_option maxRecDepth 100000 in
theorem begin5 {vc vm va vi:Value}(hc:Sl 2 ECls w B vc f.classes) (hm:Sl 8 EMe w B vm f.methods) (hB:B≤w.heap.size) (k:Nat) (hk:k < f.methods.length) (fuel:Int) (hq:FormR.within k 0 (f.methods.length - 1)=true) (hq2:FormR.within fuel 0 60000=true){input args:List Int}(hi:Sl 1 EInt w B vi input) (h3:input.length≤1000) (ha:Sl 1 EInt w B va args) (h4:args.length=(f.methods[k]).params.length) (h5:(f.methods[k]).params.length≤4):Calls Try.prog 54 #[.agg #[vc,vm],.int .i64 k,va,vi,.int .i64 fuel] w (BegR w f f.methods[k] args input fuel vc vm vi):=by
 obtain ⟨io,hi',hy0,hy1,hy2⟩:=info_parts info_val;obtain ⟨fu,rfl⟩:∃ n:Nat,fuel=(n:Int):=⟨fuel.toNat,by have:=of_decide_eq_true hq2;omega⟩
 have HCL:=Lib.hid hc;have HME:=Lib.hid hm;have HIN:=Lib.hid hi;obtain ⟨a,cap,rfl,k1,k2,_⟩:=hc;obtain ⟨ma,mcap,rfl,k3,k4,hel⟩:=hm;obtain ⟨ia,icap,rfl,k5,k6,_⟩:=hi;obtain ⟨aa,acap,rfl,k7,k8,hea⟩:=ha;obtain ⟨mb,mo,rfl,hmb,vp,vco,vh,m0,m1,m2,m3,m4,m5,m6,m7,mok,hp,hco,hh⟩:=hel k hk;obtain ⟨pa,pcap,rfl,k9,k10,hep⟩:=hp;obtain ⟨ca,ccap,rfl,k11,k12,_⟩:=hco;obtain ⟨xa,xcap,rfl,k13,k14,_⟩:=hh;have HQ:=Lib.hid hq;have HQ2:=Lib.hid hq2;have h3':¬ (1000:Int) < input.length:=by omega
 have hk':(k:Int) < f.methods.length:=by omega
 have l1:mb < w.heap.size:=by omega
 have l2:mb < w.heap.size+1:=by omega
 have hea':=Lib.hid hea;have hep':=Lib.hid hep;obtain ⟨np,hnp⟩:∃ np,np=f.methods[k].params.length:=⟨_,rfl⟩;have h4':args.length=np:=by omega
 clear hq hq2 hel hea hep
 go_enter Try.func54,Try.ntmps54
 go_wp2_with (first | (go_at_call 50;with_reducible refine (FormR.wiV k _ _ _ _ HQ.out).mono ?_;rintro e w2 ⟨rfl,rfl⟩) | (go_at_call 50;with_reducible refine (FormR.wiV (fu:Int) _ _ _ _ HQ2.out).mono ?_;rintro e w2 ⟨rfl,rfl⟩))
 go_loopw [14,15] (fun v i wr=>∃ n:Nat,i=.int .i64 n∧n≤np∧Below w.heap.size w wr∧w.heap.size+2≤wr.heap.size∧Hid (wr.ownsRow (w.heap.size+2) 104 2 v n (vcells (argsTo f.methods[k] args n)))∧wr.cell? ⟨w.heap.size+1,0,none⟩=some (.slice pa f.methods[k].params.length pcap)∧wr.cell? ⟨w.heap.size,0,none⟩=some (.slice a f.classes.length cap)∧wr.cell? ⟨w.heap.size,1,none⟩=some (.slice (some ⟨mb,mo,none⟩) f.methods.length mcap)∧Hid (∀ j (hj:j < f.methods[k].params.length),j < n→(f.methods[k].params[j]).kind≠3)) (fun _ i _=>np - (intOf i).toNat)
 case atStart=>exact ⟨0,rfl,Nat.zero_le _,by exact Rd.byB,by simp,World.ownsRow_nil _ _ _ _,by go_simp,by go_simp,by go_simp,fun j _ h=>absurd h (by omega)⟩
 case round =>
  obtain ⟨n,rfl,hn,hb,hsz,HR,b0,x0,x1,hall⟩:=hrel
  by_cases hlt:n < np
  ·have hl1:n < f.methods[k].params.length:=by omega
   have hl2:n < args.length:=by omega
   obtain ⟨pb,po,rfl,hpb,p0,p1,_⟩:=hep'.out n hl1;obtain ⟨ab,ao,rfl,hab,z0,_⟩:=hea'.out n hl2;have l3:pb < w.heap.size:=by omega
   have l4:ab < w.heap.size:=by omega
   have p0':=kept hb l3 p0;rw [Nat.mul_one] at z0;have z0':=kept hb l4 z0;obtain ⟨t,ht⟩:=at_of hl1;obtain ⟨x,hx⟩:=at_of hl2;rw [ht.out] at p0';rw [hx.out] at z0';have hn1:(n:Int) < args.length:=by omega
   have hn2:(n:Int) < f.methods[k].params.length:=by omega
   have l5:pb < wr.heap.size:=Nat.lt_of_lt_of_le l3 hb.size;have l6:ab < wr.heap.size:=Nat.lt_of_lt_of_le l4 hb.size;have l7:w.heap.size+1 < wr.heap.size:=by omega
   clear p0 p1 z0 m0 m1 m2 m3 m4 m5 m6 m7
   by_cases q3:t.kind=3
   ·have q3b:(t.kind==3)=true:=by simpa using q3
    go_wp2
    go_ret3
    unfold BegR;rw [if_pos (List.any_eq_true.2 ⟨_,List.getElem_mem hl1,by rw [ht.out];simpa using q3⟩)]
    exact ⟨rfl,hb⟩
   ·have q3b:(t.kind==3)=false:=by simpa using q3
    go_wp2
    go_region
    by_cases q1:t.kind=1
    ·have q1b:(t.kind==1)=true:=by simpa using q1
     go_wp2_with (first | (go_at_call 99;refine (NumW.rnarrow x _).mono ?_;rintro e w4 ⟨rfl,rfl⟩) | (at_builtin;refine wpList_append_lies _ rfl (.tmp 76) (.tmp 78) 100 rfl (w.heap.size+2) 104 io (.agg #[.int .i64 0,.int .i64 0]) 2 16 Try.underlying100 hi' hy0 hy1 hy2 rfl (by decide) u14 n (vcells (argsTo f.methods[k] args n)) (by simp [Act.eval,Act.put]) (row_keep HR.out (kpB (X:=fun _=>False) (w0:=wr) (by exact Rd.byB)) (fun g _ e=>e)) ⟨wr.heap.size+1,0,none⟩ 1 1 [.int .i64 1,.int .i64 (wrap32 x)] (by simp [Act.eval,Act.put]) rfl (by exact news_of (by simp)) (by simp [Value.oneCell']) (by decide) (by unfold maxLen;omega) (by omega) (by simp;omega) _ rfl ?_;intro g2 cap2 w3 hown3 hgrow3 hat3 hlt3;have KG:=grow_kp (by exact Rd.byB) HR.out hgrow3;have e0:=KG.cell b0 (by omega);have e1:=KG.cell x0 (by omega);have e2:=KG.cell x1 (by omega);have hsz3:=KG.size;replace KG:=Lib.hid KG;replace hown3:=Lib.hid hown3;clear hgrow3 hat3))
     refine ⟨⟨n+1,by simp,hlt,hb.trans (KG.out.below (by omega) (fun k hk=>by omega)),by omega,?_,e0,e1,e2,fun j hj hjn=>?_⟩,by simp only [intOf];omega⟩
     ·have ea:=argsTo_succ (m:=f.methods[k]) (args:=args) hl1 hl2;rw [ht.out,hx.out] at ea;have eb:argOf t x=⟨1,wrap32 x⟩:=by unfold argOf;rw [if_pos q1]
      rw [eb] at ea;rw [ea,vcells_append];exact hown3
     ·by_cases hjn2:j < n
      ·exact hall.out j hj hjn2
      ·obtain rfl:j=n:=by omega
       rw [ht.out];exact q3
    ·have q1b:(t.kind==1)=false:=by simpa using q1
     go_wp2_with ((at_builtin;refine wpList_append_lies _ rfl (.tmp 76) (.tmp 78) 100 rfl (w.heap.size+2) 104 io (.agg #[.int .i64 0,.int .i64 0]) 2 16 Try.underlying100 hi' hy0 hy1 hy2 rfl (by decide) u14 n (vcells (argsTo f.methods[k] args n)) (by simp [Act.eval,Act.put]) (row_keep HR.out (kpB (X:=fun _=>False) (w0:=wr) (by exact Rd.byB)) (fun g _ e=>e)) ⟨wr.heap.size+1,0,none⟩ 1 1 [.int .i64 t.kind,.int .i64 x] (by simp [Act.eval,Act.put]) rfl (by exact news_of (by simp)) (by simp [Value.oneCell']) (by decide) (by unfold maxLen;omega) (by omega) (by simp;omega) _ rfl ?_;intro g2 cap2 w3 hown3 hgrow3 hat3 hlt3;have KG:=grow_kp (by exact Rd.byB) HR.out hgrow3;have e0:=KG.cell b0 (by omega);have e1:=KG.cell x0 (by omega);have e2:=KG.cell x1 (by omega);have hsz3:=KG.size;replace KG:=Lib.hid KG;replace hown3:=Lib.hid hown3;clear hgrow3 hat3))
     refine ⟨⟨n+1,by simp,hlt,hb.trans (KG.out.below (by omega) (fun k hk=>by omega)),by omega,?_,e0,e1,e2,fun j hj hjn=>?_⟩,by simp only [intOf];omega⟩
     ·have ea:=argsTo_succ (m:=f.methods[k]) (args:=args) hl1 hl2;rw [ht.out,hx.out] at ea;have eb:argOf t x=⟨t.kind,x⟩:=by unfold argOf;rw [if_neg q1]
      rw [eb] at ea;rw [ea,vcells_append];exact hown3
     ·by_cases hjn2:j < n
      ·exact hall.out j hj hjn2
      ·obtain rfl:j=n:=by omega
       rw [ht.out];exact q3
  ·have hn1:¬ (n:Int) < args.length:=by omega
   obtain rfl:n=np:=by omega
   go_wp2
   go_ret3
   have hb0:Below B w wr:=(kpB (X:=fun _=>False) hb).below hB (fun _ e=>e.elim)
   have hnone:¬ (f.methods[k].params.any (fun t=>decide (t.kind=3))=true):=fun he=>by
    obtain ⟨t,ht,h3⟩:=List.any_eq_true.1 he;obtain ⟨j,hj,rfl⟩:=List.getElem_of_mem ht;exact hall.out j hj (by omega) (by simpa using h3)
   unfold BegR;rw [if_neg hnone];have hlen:(List.zipWith argOf f.methods[k].params args).length=n:=by rw [List.length_zipWith];omega
   have ea:argsTo f.methods[k] args n=List.zipWith argOf f.methods[k].params args:=by unfold argsTo;rw [← hlen,List.take_length]
   have HR':=HR.out;rw [ea] at HR';have HR2:wr.ownsRow (w.heap.size+2) 104 2 u14 (List.zipWith argOf f.methods[k].params args).length (vcells (List.zipWith argOf f.methods[k].params args)):=by rw [hlen];exact HR'
   have V:=VS.of_row (X:=fun _=>False) HR2 (fun _ e=>e.elim);refine ⟨wr.heap.size,u14,rfl,rhNew (HCL.out.mono mCls hb0 hB) (HME.out.mono mMe hb0 hB) (HIN.out.mono mInt hb0 hB) hb.size fu _,V.next (kpB (X:=fun _=>False) (by exact Rd.byB)) (fun _ _ e=>e) (fun b hlt e=>by omega),hb.trans ((kpB (X:=fun _=>False) (w0:=wr) (by exact Rd.byB)).below hb.size (fun _ e=>e.elim))⟩
end
end Rhw
end Go.Proofs.Ytncmhenfgbcihab
