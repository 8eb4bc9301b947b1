/- Parts of the proof: Re, Rg1, Rg2, Rg3, Rg4, Rd4, Rd0, Rt0. -/
import Derived.Test.YtncmhenfgbcihabGreatG03
import Derived.StillTailTactics
import Derived.Deep.AppendLies
import Derived.Deep.RegionLaw
import Derived.BigRegion
set_option linter.unusedSimpArgs false
set_option linter.unusedVariables false
set_option maxHeartbeats 8000000
namespace Go.Proofs.YtncmhenfgbcihabGreat
open Go.RowKit
namespace Rhw
open Num Rd D Run Mem HierW Hpw
theorem VS.one {w:World}{X:Nat→Prop}{v:Value}{x:Vl}(h:VS w X v [x]):∃ b o cap,v=.slice (some ⟨b,o,none⟩) 1 cap∧1≤cap∧cap≤9223372036854775807∧b < w.heap.size∧¬ X b∧w.cell? ⟨b,o,none⟩=some (.int .i64 x.kind)∧w.cell? ⟨b,o+1,none⟩=some (.int .i64 x.n):=by
 obtain ⟨b,o,cap,h1,h2,h3,h4,h5,h6⟩:=h.form (by simp)
 obtain ⟨c0,c1⟩:=h6 0 (by simp)
 exact ⟨b,o,cap,h1,h2,h3,h4,h5,by simpa using c0,by simpa using c1⟩
theorem VS.two {w:World}{X:Nat→Prop}{v:Value}{x y:Vl}(h:VS w X v [x,y]):∃ b o cap,v=.slice (some ⟨b,o,none⟩) 2 cap∧2≤cap∧cap≤9223372036854775807∧b < w.heap.size∧¬ X b∧w.cell? ⟨b,o,none⟩=some (.int .i64 x.kind)∧w.cell? ⟨b,o+1,none⟩=some (.int .i64 x.n)∧w.cell? ⟨b,o+2,none⟩=some (.int .i64 y.kind)∧w.cell? ⟨b,o+2+1,none⟩=some (.int .i64 y.n):=by
 obtain ⟨b,o,cap,h1,h2,h3,h4,h5,h6⟩:=h.form (by simp)
 obtain ⟨c0,c1⟩:=h6 0 (by simp)
 obtain ⟨c2,c3⟩:=h6 1 (by simp)
 exact ⟨b,o,cap,h1,h2,h3,h4,h5,by simpa using c0,by simpa using c1,by simpa using c2,by simpa using c3⟩
section
variable {E:Ev}{w w' w1 w2 w3:World}{L L':RL}{h h':Hp}{d:Nat}{s:Sv}{P:Pl}{m:Me}{fr fr1:Sf}{vs vs1:Value}
theorem take0R (H:RH E w L h d Sv.run) (F:Fr E w L P m fr vs) (hl:fr.stk.length≤1000):Calls Tryz.prog 64 #[.pointer (some ⟨E.hb,0,none⟩),.pointer (some ⟨P.cb,0,none⟩),.int .i64 0] w (TakeR E L P m h d Sv.run [] fr w):=by
 have:=takeOk H F 0 (Nat.zero_le _) hl
 rw [Nat.sub_zero,List.drop_length,List.take_length] at this
 exact this
theorem take1R (H:RH E w L h d Sv.run) (F:Fr E w L P m fr vs) (hn:fr.stk≠[]) (hl:fr.stk.length≤1000):Calls Tryz.prog 64 #[.pointer (some ⟨E.hb,0,none⟩),.pointer (some ⟨P.cb,0,none⟩),.int .i64 1] w (TakeR E L P m h d Sv.run [top fr.stk] ⟨fr.loc,fr.stk.dropLast,fr.at_⟩ w):=by
 have:=takeOk H F 1 (stk_ne hn) hl
 rw [stk_drop1 hn,stk_take1] at this
 exact this
theorem take2R (H:RH E w L h d Sv.run) (F:Fr E w L P m fr vs) (hn:fr.stk≠[]) (hn2:fr.stk.dropLast≠[]) (hl:fr.stk.length≤1000):Calls Tryz.prog 64 #[.pointer (some ⟨E.hb,0,none⟩),.pointer (some ⟨P.cb,0,none⟩),.int .i64 2] w (TakeR E L P m h d Sv.run [top fr.stk.dropLast,top fr.stk] ⟨fr.loc,fr.stk.dropLast.dropLast,fr.at_⟩ w):=by
 have:=takeOk H F 2 (stk_ne2 hn hn2) hl
 rw [stk_drop2 hn hn2,stk_take2] at this
 exact this
theorem take1S (H:RH E w L h d Sv.run) (F:Fr E w L P m fr vs) (hn:fr.stk=[]):Calls Tryz.prog 64 #[.pointer (some ⟨E.hb,0,none⟩),.pointer (some ⟨P.cb,0,none⟩),.int .i64 1] w (TakeR E L P m h d (Sv.ends 6) [Vl.nil] fr w) :=
 takeStuck H F 1 (by rw [hn];simp) (by omega) 1 rfl
theorem take2S (H:RH E w L h d Sv.run) (F:Fr E w L P m fr vs) (hn:fr.stk=[]∨fr.stk.dropLast=[]):Calls Tryz.prog 64 #[.pointer (some ⟨E.hb,0,none⟩),.pointer (some ⟨P.cb,0,none⟩),.int .i64 2] w (TakeR E L P m h d (Sv.ends 6) [Vl.nil,Vl.nil] fr w) :=
 takeStuck H F 2 (by
  rcases hn with hn | hn
  ·rw [hn];simp
  ·have:=congrArg List.length hn
   rw [List.length_dropLast] at this
   simp at this;omega) (by omega) 2 rfl
def RRm (E:Ev) (L:RL) (d:Nat) (k n:Int) (w w':World) (r:Res Vl):Prop:=match r with
 | .ok a h'=>(k=a.kind∧n=a.n)∧RL2 E L d w w' h' Sv.run
 | .thrown o h'=>RL2 E L d w w' h' (Sv.thr o)
 | .stop c h'=>RL2 E L d w w' h' (Sv.ends c)
theorem rrv_m {r:Res Vl}{e:Ending}(H:RRv E L d w r e w'):∃ k n:Int,e=.returned (.agg #[.int .i64 k,.int .i64 n])∧RRm E L d k n w w' r:=H
theorem rrm_kp {k n:Int}{r:Res Vl}(H:RRm E L d k n w w' r):Kp (own E L) w w':=by
 cases r with
 | ok a h'=>obtain ⟨_,L',K,_⟩:=H;exact K
 | thrown o h'=>obtain ⟨L',K,_⟩:=H;exact K
 | stop c h'=>obtain ⟨L',K,_⟩:=H;exact K
theorem top_mem {l:List Vl}(h:l≠[]):top l∈l:=by
 have:=stk_last h
 rw [this]
 simp [top]
theorem rru_kp {r:Res Unit}{w w':World}(H:match r with
  | .ok a h'=>RL2 E L d w w' h' Sv.run
  | .thrown o h'=>RL2 E L d w w' h' (Sv.thr o)
  | .stop c h'=>RL2 E L d w w' h' (Sv.ends c)):Kp (own E L) w w':=by
 cases r with
 | ok a h'=>obtain ⟨L',K,_⟩:=H;exact K
 | thrown o h'=>obtain ⟨L',K,_⟩:=H;exact K
 | stop c h'=>obtain ⟨L',K,_⟩:=H;exact K
theorem rru_val {r:Res Unit}{v:Vl}{w w':World}(H:match r with
  | .ok a h'=>RL2 E L d w w' h' Sv.run
  | .thrown o h'=>RL2 E L d w w' h' (Sv.thr o)
  | .stop c h'=>RL2 E L d w w' h' (Sv.ends c)):RRm E L d v.kind v.n w w' (r.bind fun _ h=>.ok v h):=by
 cases r with
 | ok a h'=>exact ⟨⟨rfl,rfl⟩,H⟩
 | thrown o h'=>exact H
 | stop c h'=>exact H
theorem vs_ne {vb:Nat}(h:¬ FX E L P vb):vb≠E.hb:=fun e=>h (.inl (.inl (.inl e)))
def GiveR (E:Ev) (L:RL) (P:Pl) (m:Me) (d:Nat) (w:World) (r:Res Vl) (fr:Sf) (e:Ending) (w':World):Prop :=
 ∃ k n:Int,e=.returned (.agg #[.int .i64 k,.int .i64 n])∧∃ L',Kp (KX E L P) w w'∧(∀ k,own E L' k→own E L k∨w.heap.size≤k)∧match r with
  | .ok a h'=>(k=a.kind∧n=a.n)∧RH E w' L' h' d Sv.run∧∃ vs',Fr E w' L' P m fr vs'
  | .thrown o h'=>RH E w' L' h' d (Sv.thr o)∧∃ vs',Fr E w' L' P m fr vs'
  | .stop c h'=>RH E w' L' h' d (Sv.ends c)
theorem kp2 (w:World) (b:Nat) (x y:Value):Kp (fun k=>k=b) w ((w.setCell ⟨b,0,none⟩ x).setCell ⟨b,1,none⟩ y):=((Kp.refl (fun k=>k=b) w).setCell (p:=⟨b,0,none⟩) (.inl rfl) x).setCell (p:=⟨b,1,none⟩) (.inl rfl) y
theorem kp2d (w:World) (b:Nat) (x y:Value):Kp (fun k=>k=b) w ((w.setCell ⟨b,0,none⟩ x).setCell ⟨b,1,none⟩ y).drew:=(kp2 w b x y).drew
theorem kpd2 (w:World) (b:Nat) (x y:Value):Kp (fun k=>k=b) w ((w.drew.setCell ⟨b,0,none⟩ x).setCell ⟨b,1,none⟩ y):=(((Kp.refl (fun k=>k=b) w).drew).setCell (p:=⟨b,0,none⟩) (.inl rfl) x).setCell (p:=⟨b,1,none⟩) (.inl rfl) y
theorem give_of {r:Res Vl}{k n:Int}{b:Nat}{Z:Nat→Prop}(hb:w.heap.size≤b) (hb1:b < w1.heap.size) (H:RH E w L h d s) (R:RRm E L d k n w1 w2 r) (F1:Fr E w1 L (P.zone Z) m fr1 vs1) (hZ:Z b) (hPZ:∀ k,P.Z k→Z k) (hKX:∀ k,KX E L P k→k < w.heap.size) (K1:Kp (KX E L P) w w1) (K3:Kp (fun k=>k=b) w2 w3) :
  GiveR E L P m d w r fr1 (.returned (.agg #[.int .i64 k,.int .i64 n])) w3:=by
 have hsz:=K1.size
 have key:∀ (h':Hp) (s':Sv),RL2 E L d w1 w2 h' s'→∃ L',Kp (KX E L P) w w3∧(∀ k,own E L' k→own E L k∨w.heap.size≤k)∧RH E w3 L' h' d s'∧∃ vs',Fr E w3 L' P m fr1 vs':=by
  intro h' s' ⟨L',K2,N2,H2⟩
  have hn:¬ own E L' b:=fun hk=>by
   rcases N2 b hk with q | q
   ·have:=hKX b (.inl q);omega
   ·omega
  have hEb:E.B≤b:=by have:=H.rows.base;omega
  have F2:=F1.heap K2 N2
  refine ⟨L',(K1.trans K2 (fun y hy=>.inl (.inl hy))).trans K3 (fun y hy=>.inr (by omega)),fun k hk=>(N2 k hk).imp_right (fun q=>by omega),H2.keep K3 (fun k e=>by subst e;exact ⟨hEb,hn⟩),vs1,?_⟩
  refine Fr.unzone (F2.keep K3 (fun k e hl=>?_)) hPZ
  subst e
  refine ⟨hZ,fun hk=>?_⟩
  rcases hk with hk | hk | hk
  ·exact hn hk
  ·have:=hKX P.cb (.inr (.inl rfl));simp [Pl.zone] at hk;omega
  ·have:=hKX P.lb (.inr (.inr rfl));simp [Pl.zone] at hk;omega
 cases r with
 | ok a h' =>
  obtain ⟨e,R⟩:=R
  obtain ⟨L',a1,a2,a3,a4⟩:=key _ _ R
  exact ⟨k,n,rfl,L',a1,a2,e,a3,a4⟩
 | thrown o h' =>
  obtain ⟨L',a1,a2,a3,a4⟩:=key _ _ R
  exact ⟨k,n,rfl,L',a1,a2,a3,a4⟩
 | stop c h' =>
  obtain ⟨L',a1,a2,a3,a4⟩:=key _ _ R
  exact ⟨k,n,rfl,L',a1,a2,a3⟩
theorem rrm_ok (H:RH E w L h d Sv.run){a:Vl}{k n:Int}{r:Res Vl}(hr:r=.ok a h) (hk:k=a.kind) (hn:n=a.n):RRm E L d k n w w r:=by
 subst hr;exact ⟨⟨hk,hn⟩,L,Kp.refl _ _,same_own,H⟩
theorem rrm_stop {c:Int}(H:RH E w' L h d (Sv.ends c)) (K:Kp (own E L) w w'){k n:Int}{r:Res Vl}(hr:r=.stop c h):RRm E L d k n w w' r:=by
 subst hr;exact ⟨L,K,same_own,H⟩
end
end Rhw
namespace Rhw
open Num Rd D Run Mem HierW Hpw
section
variable {E:Ev}{w w':World}{L L':RL}{h h':Hp}{d:Nat}{s:Sv}{P:Pl}{m:Me}{fr:Sf}{vs:Value}
set_option maxRecDepth 100000 in
theorem giv1 (H:RH E w L h d Sv.run) (F:Fr E w L P m fr vs) (hl:fr.stk.length≤1000) (a b c n:Int) (va:Value) :
  Calls Tryz.prog 120 #[.pointer (some ⟨E.hb,0,none⟩),.pointer (some ⟨P.cb,0,none⟩),.agg #[.int .i64 1,.int .i64 a,.int .i64 b,.int .i64 c,.int .i64 n,va]] w (GiveR E L P m d w (.ok ⟨1,n⟩ h) fr):=by
 have hKX:∀ k,KX E L P k→k < w.heap.size:=fun k hk=>by
  rcases hk with hk | hk | hk
  ·exact (own_lo H.rows hk).2
  ·rw [hk];exact F.cbw
  ·rw [hk];exact F.lbw
 have HH:=Lib.hid H
 have hhb0:E.hb < w.heap.size:=H.rows.base.2
 have hhb1:E.hb < w.heap.size+1:=by omega
 obtain ⟨Z,hZ⟩:∃ Z:Nat→Prop,Hid (Z=fun k=>P.Z k∨k=w.heap.size∨k=w.heap.size+1):=⟨_,rfl⟩
 have HB0:Below w.heap.size w ((w.alloc (.cells #[.int .i64 1,.int .i64 a,.int .i64 b,.int .i64 c,.int .i64 n,va] 66)).alloc (.cells #[.int .i64 0,.int .i64 0] 72)):=by exact Rd.byB
 have H0:=Lib.hid (H.below HB0)
 have F0:=Lib.hid (F.zone HB0 Z (fun k hk=>by rw [hZ.out] at hk;rcases hk with q | q | q;exact .inl q;exact .inr (by omega);exact .inr (by omega)) (fun k hk=>by rw [hZ.out] at hk;rcases hk with q | q | q;exact Nat.lt_of_lt_of_le (F.zlt k q) HB0.size;(simp;omega);(simp;omega)))
 have nx0:¬ KX E L (P.zone Z) w.heap.size:=fun hk=>by have:=hKX _ hk;omega
 have nx1:¬ KX E L (P.zone Z) (w.heap.size+1):=fun hk=>by have:=hKX _ hk;omega
 have z1:Hid (Z (w.heap.size+1)):=by show Z _;rw [hZ.out];exact .inr (.inr rfl)
 have zp:Hid (∀ k,P.Z k→Z k):=fun k hk=>by rw [hZ.out];exact .inl hk
 have hkx:=Lib.hid hKX
 have KB0:=Lib.hid (kpB (X:=KX E L P) HB0)
 clear H F hZ HB0 hKX
 go_enter Tryz.func120,Tryz.ntmps120
 go_wp2_with (go_at_call 64;refine (take0R H0.out F0.out hl).mono ?_;rintro e w1 ⟨vt,vs1,rfl,V1,F1,H1,K1⟩;have i0:=K1.cell (c:=w.heap.size) (o:=0) (v:=.int .i64 1) (by go_simp) nx0;have i1:=K1.cell (c:=w.heap.size) (o:=1) (v:=.int .i64 a) (by go_simp) nx0;have i2:=K1.cell (c:=w.heap.size) (o:=2) (v:=.int .i64 b) (by go_simp) nx0;have i4:=K1.cell (c:=w.heap.size) (o:=4) (v:=.int .i64 n) (by go_simp) nx0;have r0:=K1.cell (c:=w.heap.size+1) (o:=0) (v:=.int .i64 0) (by go_simp) nx1;have q0:=K1.frz (c:=w.heap.size+1) (o:=0) (b:=false) (by go_simp) (by simp) nx1;have r1:=K1.cell (c:=w.heap.size+1) (o:=1) (v:=.int .i64 0) (by go_simp) nx1;have q1:=K1.frz (c:=w.heap.size+1) (o:=1) (b:=false) (by go_simp) (by simp) nx1;have hb1:=H1.rows.base.2;have hsz1:w.heap.size+1 < w1.heap.size:=(by have:=K1.size;simp at this;omega);have c12:=H1.c12;have f12:=H1.fz 12 (by decide);have f6:=H1.fz 6 (by decide);have c6:=H1.c6;replace V1:=Lib.hid V1;replace F1:=Lib.hid F1;replace H1:=Lib.hid H1;replace K1:=Lib.hid (KB0.out.trans K1 (fun y hy=>.inl hy)))
 refine bodyPost_ret (v:=.agg #[.int .i64 1,.int .i64 n]) (by simp [results,Tryz.results120,go_sem] <;> go_simp) rfl ?_
 exact give_of (b:=w.heap.size+1) (by omega) (by first | omega | (simp;omega)) HH.out (rrm_ok H1.out rfl rfl rfl) (F1.out) z1.out zp.out hkx.out (K1.out) (by first | exact kp2 _ _ _ _ | exact kp2d _ _ _ _)
set_option maxRecDepth 100000 in
theorem giv2 (H:RH E w L h d Sv.run) (F:Fr E w L P m fr vs) (hl:fr.stk.length≤1000) (a b c n:Int) (va:Value) :
  Calls Tryz.prog 120 #[.pointer (some ⟨E.hb,0,none⟩),.pointer (some ⟨P.cb,0,none⟩),.agg #[.int .i64 2,.int .i64 a,.int .i64 b,.int .i64 c,.int .i64 n,va]] w (GiveR E L P m d w (.ok ⟨2,n⟩ h) fr):=by
 have hKX:∀ k,KX E L P k→k < w.heap.size:=fun k hk=>by
  rcases hk with hk | hk | hk
  ·exact (own_lo H.rows hk).2
  ·rw [hk];exact F.cbw
  ·rw [hk];exact F.lbw
 have HH:=Lib.hid H
 have hhb0:E.hb < w.heap.size:=H.rows.base.2
 have hhb1:E.hb < w.heap.size+1:=by omega
 obtain ⟨Z,hZ⟩:∃ Z:Nat→Prop,Hid (Z=fun k=>P.Z k∨k=w.heap.size∨k=w.heap.size+1):=⟨_,rfl⟩
 have HB0:Below w.heap.size w ((w.alloc (.cells #[.int .i64 2,.int .i64 a,.int .i64 b,.int .i64 c,.int .i64 n,va] 66)).alloc (.cells #[.int .i64 0,.int .i64 0] 72)):=by exact Rd.byB
 have H0:=Lib.hid (H.below HB0)
 have F0:=Lib.hid (F.zone HB0 Z (fun k hk=>by rw [hZ.out] at hk;rcases hk with q | q | q;exact .inl q;exact .inr (by omega);exact .inr (by omega)) (fun k hk=>by rw [hZ.out] at hk;rcases hk with q | q | q;exact Nat.lt_of_lt_of_le (F.zlt k q) HB0.size;(simp;omega);(simp;omega)))
 have nx0:¬ KX E L (P.zone Z) w.heap.size:=fun hk=>by have:=hKX _ hk;omega
 have nx1:¬ KX E L (P.zone Z) (w.heap.size+1):=fun hk=>by have:=hKX _ hk;omega
 have z1:Hid (Z (w.heap.size+1)):=by show Z _;rw [hZ.out];exact .inr (.inr rfl)
 have zp:Hid (∀ k,P.Z k→Z k):=fun k hk=>by rw [hZ.out];exact .inl hk
 have hkx:=Lib.hid hKX
 have KB0:=Lib.hid (kpB (X:=KX E L P) HB0)
 clear H F hZ HB0 hKX
 go_enter Tryz.func120,Tryz.ntmps120
 go_wp2_with (go_at_call 64;refine (take0R H0.out F0.out hl).mono ?_;rintro e w1 ⟨vt,vs1,rfl,V1,F1,H1,K1⟩;have i0:=K1.cell (c:=w.heap.size) (o:=0) (v:=.int .i64 2) (by go_simp) nx0;have i1:=K1.cell (c:=w.heap.size) (o:=1) (v:=.int .i64 a) (by go_simp) nx0;have i2:=K1.cell (c:=w.heap.size) (o:=2) (v:=.int .i64 b) (by go_simp) nx0;have i4:=K1.cell (c:=w.heap.size) (o:=4) (v:=.int .i64 n) (by go_simp) nx0;have r0:=K1.cell (c:=w.heap.size+1) (o:=0) (v:=.int .i64 0) (by go_simp) nx1;have q0:=K1.frz (c:=w.heap.size+1) (o:=0) (b:=false) (by go_simp) (by simp) nx1;have r1:=K1.cell (c:=w.heap.size+1) (o:=1) (v:=.int .i64 0) (by go_simp) nx1;have q1:=K1.frz (c:=w.heap.size+1) (o:=1) (b:=false) (by go_simp) (by simp) nx1;have hb1:=H1.rows.base.2;have hsz1:w.heap.size+1 < w1.heap.size:=(by have:=K1.size;simp at this;omega);have c12:=H1.c12;have f12:=H1.fz 12 (by decide);have f6:=H1.fz 6 (by decide);have c6:=H1.c6;replace V1:=Lib.hid V1;replace F1:=Lib.hid F1;replace H1:=Lib.hid H1;replace K1:=Lib.hid (KB0.out.trans K1 (fun y hy=>.inl hy)))
 refine bodyPost_ret (v:=.agg #[.int .i64 2,.int .i64 n]) (by simp [results,Tryz.results120,go_sem] <;> go_simp) rfl ?_
 exact give_of (b:=w.heap.size+1) (by omega) (by first | omega | (simp;omega)) HH.out (rrm_ok H1.out rfl rfl rfl) (F1.out) z1.out zp.out hkx.out (K1.out) (by first | exact kp2 _ _ _ _ | exact kp2d _ _ _ _)
set_option maxRecDepth 100000 in
theorem giv3 (H:RH E w L h d Sv.run) (F:Fr E w L P m fr vs) (hl:fr.stk.length≤1000) (a b c n:Int) (va:Value) :
  Calls Tryz.prog 120 #[.pointer (some ⟨E.hb,0,none⟩),.pointer (some ⟨P.cb,0,none⟩),.agg #[.int .i64 3,.int .i64 a,.int .i64 b,.int .i64 c,.int .i64 n,va]] w (GiveR E L P m d w (.ok ⟨3,(-1)⟩ h) fr):=by
 have hKX:∀ k,KX E L P k→k < w.heap.size:=fun k hk=>by
  rcases hk with hk | hk | hk
  ·exact (own_lo H.rows hk).2
  ·rw [hk];exact F.cbw
  ·rw [hk];exact F.lbw
 have HH:=Lib.hid H
 have hhb0:E.hb < w.heap.size:=H.rows.base.2
 have hhb1:E.hb < w.heap.size+1:=by omega
 obtain ⟨Z,hZ⟩:∃ Z:Nat→Prop,Hid (Z=fun k=>P.Z k∨k=w.heap.size∨k=w.heap.size+1):=⟨_,rfl⟩
 have HB0:Below w.heap.size w ((w.alloc (.cells #[.int .i64 3,.int .i64 a,.int .i64 b,.int .i64 c,.int .i64 n,va] 66)).alloc (.cells #[.int .i64 0,.int .i64 0] 72)):=by exact Rd.byB
 have H0:=Lib.hid (H.below HB0)
 have F0:=Lib.hid (F.zone HB0 Z (fun k hk=>by rw [hZ.out] at hk;rcases hk with q | q | q;exact .inl q;exact .inr (by omega);exact .inr (by omega)) (fun k hk=>by rw [hZ.out] at hk;rcases hk with q | q | q;exact Nat.lt_of_lt_of_le (F.zlt k q) HB0.size;(simp;omega);(simp;omega)))
 have nx0:¬ KX E L (P.zone Z) w.heap.size:=fun hk=>by have:=hKX _ hk;omega
 have nx1:¬ KX E L (P.zone Z) (w.heap.size+1):=fun hk=>by have:=hKX _ hk;omega
 have z1:Hid (Z (w.heap.size+1)):=by show Z _;rw [hZ.out];exact .inr (.inr rfl)
 have zp:Hid (∀ k,P.Z k→Z k):=fun k hk=>by rw [hZ.out];exact .inl hk
 have hkx:=Lib.hid hKX
 have KB0:=Lib.hid (kpB (X:=KX E L P) HB0)
 clear H F hZ HB0 hKX
 go_enter Tryz.func120,Tryz.ntmps120
 go_wp2_with (go_at_call 64;refine (take0R H0.out F0.out hl).mono ?_;rintro e w1 ⟨vt,vs1,rfl,V1,F1,H1,K1⟩;have i0:=K1.cell (c:=w.heap.size) (o:=0) (v:=.int .i64 3) (by go_simp) nx0;have i1:=K1.cell (c:=w.heap.size) (o:=1) (v:=.int .i64 a) (by go_simp) nx0;have i2:=K1.cell (c:=w.heap.size) (o:=2) (v:=.int .i64 b) (by go_simp) nx0;have i4:=K1.cell (c:=w.heap.size) (o:=4) (v:=.int .i64 n) (by go_simp) nx0;have r0:=K1.cell (c:=w.heap.size+1) (o:=0) (v:=.int .i64 0) (by go_simp) nx1;have q0:=K1.frz (c:=w.heap.size+1) (o:=0) (b:=false) (by go_simp) (by simp) nx1;have r1:=K1.cell (c:=w.heap.size+1) (o:=1) (v:=.int .i64 0) (by go_simp) nx1;have q1:=K1.frz (c:=w.heap.size+1) (o:=1) (b:=false) (by go_simp) (by simp) nx1;have hb1:=H1.rows.base.2;have hsz1:w.heap.size+1 < w1.heap.size:=(by have:=K1.size;simp at this;omega);have c12:=H1.c12;have f12:=H1.fz 12 (by decide);have f6:=H1.fz 6 (by decide);have c6:=H1.c6;replace V1:=Lib.hid V1;replace F1:=Lib.hid F1;replace H1:=Lib.hid H1;replace K1:=Lib.hid (KB0.out.trans K1 (fun y hy=>.inl hy)))
 refine bodyPost_ret (v:=.agg #[.int .i64 3,.int .i64 (-1)]) (by simp [results,Tryz.results120,go_sem] <;> go_simp) rfl ?_
 exact give_of (b:=w.heap.size+1) (by omega) (by first | omega | (simp;omega)) HH.out (rrm_ok H1.out rfl rfl rfl) (F1.out) z1.out zp.out hkx.out (K1.out) (by first | exact kp2 _ _ _ _ | exact kp2d _ _ _ _)
set_option maxRecDepth 100000 in
theorem giv8S (H:RH E w L h d Sv.run) (F:Fr E w L P m fr vs) (hl:fr.stk.length≤1000) (hn:fr.stk=[]) (a b c n:Int) (va:Value) :
  Calls Tryz.prog 120 #[.pointer (some ⟨E.hb,0,none⟩),.pointer (some ⟨P.cb,0,none⟩),.agg #[.int .i64 8,.int .i64 a,.int .i64 b,.int .i64 c,.int .i64 n,va]] w (GiveR E L P m d w (.stop 6 h) fr):=by
 have hKX:∀ k,KX E L P k→k < w.heap.size:=fun k hk=>by
  rcases hk with hk | hk | hk
  ·exact (own_lo H.rows hk).2
  ·rw [hk];exact F.cbw
  ·rw [hk];exact F.lbw
 have HH:=Lib.hid H
 have hhb0:E.hb < w.heap.size:=H.rows.base.2
 have hhb1:E.hb < w.heap.size+1:=by omega
 obtain ⟨Z,hZ⟩:∃ Z:Nat→Prop,Hid (Z=fun k=>P.Z k∨k=w.heap.size∨k=w.heap.size+1):=⟨_,rfl⟩
 have HB0:Below w.heap.size w ((w.alloc (.cells #[.int .i64 8,.int .i64 a,.int .i64 b,.int .i64 c,.int .i64 n,va] 66)).alloc (.cells #[.int .i64 0,.int .i64 0] 72)):=by exact Rd.byB
 have H0:=Lib.hid (H.below HB0)
 have F0:=Lib.hid (F.zone HB0 Z (fun k hk=>by rw [hZ.out] at hk;rcases hk with q | q | q;exact .inl q;exact .inr (by omega);exact .inr (by omega)) (fun k hk=>by rw [hZ.out] at hk;rcases hk with q | q | q;exact Nat.lt_of_lt_of_le (F.zlt k q) HB0.size;(simp;omega);(simp;omega)))
 have nx0:¬ KX E L (P.zone Z) w.heap.size:=fun hk=>by have:=hKX _ hk;omega
 have nx1:¬ KX E L (P.zone Z) (w.heap.size+1):=fun hk=>by have:=hKX _ hk;omega
 have z1:Hid (Z (w.heap.size+1)):=by show Z _;rw [hZ.out];exact .inr (.inr rfl)
 have zp:Hid (∀ k,P.Z k→Z k):=fun k hk=>by rw [hZ.out];exact .inl hk
 have hkx:=Lib.hid hKX
 have KB0:=Lib.hid (kpB (X:=KX E L P) HB0)
 clear H F hZ HB0 hKX
 go_enter Tryz.func120,Tryz.ntmps120
 go_wp2_with (go_at_call 64;refine (take1S H0.out F0.out hn).mono ?_;rintro e w1 ⟨vt,vs1,rfl,V1,F1,H1,K1⟩;have i0:=K1.cell (c:=w.heap.size) (o:=0) (v:=.int .i64 8) (by go_simp) nx0;have i1:=K1.cell (c:=w.heap.size) (o:=1) (v:=.int .i64 a) (by go_simp) nx0;have i2:=K1.cell (c:=w.heap.size) (o:=2) (v:=.int .i64 b) (by go_simp) nx0;have i4:=K1.cell (c:=w.heap.size) (o:=4) (v:=.int .i64 n) (by go_simp) nx0;have r0:=K1.cell (c:=w.heap.size+1) (o:=0) (v:=.int .i64 0) (by go_simp) nx1;have q0:=K1.frz (c:=w.heap.size+1) (o:=0) (b:=false) (by go_simp) (by simp) nx1;have r1:=K1.cell (c:=w.heap.size+1) (o:=1) (v:=.int .i64 0) (by go_simp) nx1;have q1:=K1.frz (c:=w.heap.size+1) (o:=1) (b:=false) (by go_simp) (by simp) nx1;have hb1:=H1.rows.base.2;have hsz1:w.heap.size+1 < w1.heap.size:=(by have:=K1.size;simp at this;omega);have c12:=H1.c12;have f12:=H1.fz 12 (by decide);have f6:=H1.fz 6 (by decide);have c6:=H1.c6;replace V1:=Lib.hid V1;replace F1:=Lib.hid F1;replace H1:=Lib.hid H1;replace K1:=Lib.hid (KB0.out.trans K1 (fun y hy=>.inl hy)))
 refine bodyPost_ret (v:=.agg #[.int .i64 0,.int .i64 0]) (by simp [results,Tryz.results120,go_sem] <;> go_simp) rfl ?_
 exact give_of (b:=w.heap.size+1) (by omega) (by first | omega | (simp;omega)) HH.out (rrm_stop H1.out (Kp.refl _ _) rfl) (F1.out) z1.out zp.out hkx.out (K1.out) (by first | exact kp2 _ _ _ _ | exact kp2d _ _ _ _)
set_option maxRecDepth 100000 in
theorem giv9S (H:RH E w L h d Sv.run) (F:Fr E w L P m fr vs) (hl:fr.stk.length≤1000) (hn:fr.stk=[]) (a b c n:Int) (va:Value) :
  Calls Tryz.prog 120 #[.pointer (some ⟨E.hb,0,none⟩),.pointer (some ⟨P.cb,0,none⟩),.agg #[.int .i64 9,.int .i64 a,.int .i64 b,.int .i64 c,.int .i64 n,va]] w (GiveR E L P m d w (.stop 6 h) fr):=by
 have hKX:∀ k,KX E L P k→k < w.heap.size:=fun k hk=>by
  rcases hk with hk | hk | hk
  ·exact (own_lo H.rows hk).2
  ·rw [hk];exact F.cbw
  ·rw [hk];exact F.lbw
 have HH:=Lib.hid H
 have hhb0:E.hb < w.heap.size:=H.rows.base.2
 have hhb1:E.hb < w.heap.size+1:=by omega
 obtain ⟨Z,hZ⟩:∃ Z:Nat→Prop,Hid (Z=fun k=>P.Z k∨k=w.heap.size∨k=w.heap.size+1):=⟨_,rfl⟩
 have HB0:Below w.heap.size w ((w.alloc (.cells #[.int .i64 9,.int .i64 a,.int .i64 b,.int .i64 c,.int .i64 n,va] 66)).alloc (.cells #[.int .i64 0,.int .i64 0] 72)):=by exact Rd.byB
 have H0:=Lib.hid (H.below HB0)
 have F0:=Lib.hid (F.zone HB0 Z (fun k hk=>by rw [hZ.out] at hk;rcases hk with q | q | q;exact .inl q;exact .inr (by omega);exact .inr (by omega)) (fun k hk=>by rw [hZ.out] at hk;rcases hk with q | q | q;exact Nat.lt_of_lt_of_le (F.zlt k q) HB0.size;(simp;omega);(simp;omega)))
 have nx0:¬ KX E L (P.zone Z) w.heap.size:=fun hk=>by have:=hKX _ hk;omega
 have nx1:¬ KX E L (P.zone Z) (w.heap.size+1):=fun hk=>by have:=hKX _ hk;omega
 have z1:Hid (Z (w.heap.size+1)):=by show Z _;rw [hZ.out];exact .inr (.inr rfl)
 have zp:Hid (∀ k,P.Z k→Z k):=fun k hk=>by rw [hZ.out];exact .inl hk
 have hkx:=Lib.hid hKX
 have KB0:=Lib.hid (kpB (X:=KX E L P) HB0)
 clear H F hZ HB0 hKX
 go_enter Tryz.func120,Tryz.ntmps120
 go_wp2_with (go_at_call 64;refine (take1S H0.out F0.out hn).mono ?_;rintro e w1 ⟨vt,vs1,rfl,V1,F1,H1,K1⟩;have i0:=K1.cell (c:=w.heap.size) (o:=0) (v:=.int .i64 9) (by go_simp) nx0;have i1:=K1.cell (c:=w.heap.size) (o:=1) (v:=.int .i64 a) (by go_simp) nx0;have i2:=K1.cell (c:=w.heap.size) (o:=2) (v:=.int .i64 b) (by go_simp) nx0;have i4:=K1.cell (c:=w.heap.size) (o:=4) (v:=.int .i64 n) (by go_simp) nx0;have r0:=K1.cell (c:=w.heap.size+1) (o:=0) (v:=.int .i64 0) (by go_simp) nx1;have q0:=K1.frz (c:=w.heap.size+1) (o:=0) (b:=false) (by go_simp) (by simp) nx1;have r1:=K1.cell (c:=w.heap.size+1) (o:=1) (v:=.int .i64 0) (by go_simp) nx1;have q1:=K1.frz (c:=w.heap.size+1) (o:=1) (b:=false) (by go_simp) (by simp) nx1;have hb1:=H1.rows.base.2;have hsz1:w.heap.size+1 < w1.heap.size:=(by have:=K1.size;simp at this;omega);have c12:=H1.c12;have f12:=H1.fz 12 (by decide);have f6:=H1.fz 6 (by decide);have c6:=H1.c6;replace V1:=Lib.hid V1;replace F1:=Lib.hid F1;replace H1:=Lib.hid H1;replace K1:=Lib.hid (KB0.out.trans K1 (fun y hy=>.inl hy)))
 refine bodyPost_ret (v:=.agg #[.int .i64 0,.int .i64 0]) (by simp [results,Tryz.results120,go_sem] <;> go_simp) rfl ?_
 exact give_of (b:=w.heap.size+1) (by omega) (by first | omega | (simp;omega)) HH.out (rrm_stop H1.out (Kp.refl _ _) rfl) (F1.out) z1.out zp.out hkx.out (K1.out) (by first | exact kp2 _ _ _ _ | exact kp2d _ _ _ _)
set_option maxRecDepth 100000 in
theorem giv15S (H:RH E w L h d Sv.run) (F:Fr E w L P m fr vs) (hl:fr.stk.length≤1000) (hn:fr.stk=[]) (a b c n:Int) (va:Value) :
  Calls Tryz.prog 120 #[.pointer (some ⟨E.hb,0,none⟩),.pointer (some ⟨P.cb,0,none⟩),.agg #[.int .i64 15,.int .i64 a,.int .i64 b,.int .i64 c,.int .i64 n,va]] w (GiveR E L P m d w (.stop 6 h) fr):=by
 have hKX:∀ k,KX E L P k→k < w.heap.size:=fun k hk=>by
  rcases hk with hk | hk | hk
  ·exact (own_lo H.rows hk).2
  ·rw [hk];exact F.cbw
  ·rw [hk];exact F.lbw
 have HH:=Lib.hid H
 have hhb0:E.hb < w.heap.size:=H.rows.base.2
 have hhb1:E.hb < w.heap.size+1:=by omega
 obtain ⟨Z,hZ⟩:∃ Z:Nat→Prop,Hid (Z=fun k=>P.Z k∨k=w.heap.size∨k=w.heap.size+1):=⟨_,rfl⟩
 have HB0:Below w.heap.size w ((w.alloc (.cells #[.int .i64 15,.int .i64 a,.int .i64 b,.int .i64 c,.int .i64 n,va] 66)).alloc (.cells #[.int .i64 0,.int .i64 0] 72)):=by exact Rd.byB
 have H0:=Lib.hid (H.below HB0)
 have F0:=Lib.hid (F.zone HB0 Z (fun k hk=>by rw [hZ.out] at hk;rcases hk with q | q | q;exact .inl q;exact .inr (by omega);exact .inr (by omega)) (fun k hk=>by rw [hZ.out] at hk;rcases hk with q | q | q;exact Nat.lt_of_lt_of_le (F.zlt k q) HB0.size;(simp;omega);(simp;omega)))
 have nx0:¬ KX E L (P.zone Z) w.heap.size:=fun hk=>by have:=hKX _ hk;omega
 have nx1:¬ KX E L (P.zone Z) (w.heap.size+1):=fun hk=>by have:=hKX _ hk;omega
 have z1:Hid (Z (w.heap.size+1)):=by show Z _;rw [hZ.out];exact .inr (.inr rfl)
 have zp:Hid (∀ k,P.Z k→Z k):=fun k hk=>by rw [hZ.out];exact .inl hk
 have hkx:=Lib.hid hKX
 have KB0:=Lib.hid (kpB (X:=KX E L P) HB0)
 clear H F hZ HB0 hKX
 go_enter Tryz.func120,Tryz.ntmps120
 go_wp2_with (go_at_call 64;refine (take1S H0.out F0.out hn).mono ?_;rintro e w1 ⟨vt,vs1,rfl,V1,F1,H1,K1⟩;have i0:=K1.cell (c:=w.heap.size) (o:=0) (v:=.int .i64 15) (by go_simp) nx0;have i1:=K1.cell (c:=w.heap.size) (o:=1) (v:=.int .i64 a) (by go_simp) nx0;have i2:=K1.cell (c:=w.heap.size) (o:=2) (v:=.int .i64 b) (by go_simp) nx0;have i4:=K1.cell (c:=w.heap.size) (o:=4) (v:=.int .i64 n) (by go_simp) nx0;have r0:=K1.cell (c:=w.heap.size+1) (o:=0) (v:=.int .i64 0) (by go_simp) nx1;have q0:=K1.frz (c:=w.heap.size+1) (o:=0) (b:=false) (by go_simp) (by simp) nx1;have r1:=K1.cell (c:=w.heap.size+1) (o:=1) (v:=.int .i64 0) (by go_simp) nx1;have q1:=K1.frz (c:=w.heap.size+1) (o:=1) (b:=false) (by go_simp) (by simp) nx1;have hb1:=H1.rows.base.2;have hsz1:w.heap.size+1 < w1.heap.size:=(by have:=K1.size;simp at this;omega);have c12:=H1.c12;have f12:=H1.fz 12 (by decide);have f6:=H1.fz 6 (by decide);have c6:=H1.c6;replace V1:=Lib.hid V1;replace F1:=Lib.hid F1;replace H1:=Lib.hid H1;replace K1:=Lib.hid (KB0.out.trans K1 (fun y hy=>.inl hy)))
 refine bodyPost_ret (v:=.agg #[.int .i64 0,.int .i64 0]) (by simp [results,Tryz.results120,go_sem] <;> go_simp) rfl ?_
 exact give_of (b:=w.heap.size+1) (by omega) (by first | omega | (simp;omega)) HH.out (rrm_stop H1.out (Kp.refl _ _) rfl) (F1.out) z1.out zp.out hkx.out (K1.out) (by first | exact kp2 _ _ _ _ | exact kp2d _ _ _ _)
set_option maxRecDepth 100000 in
theorem giv17S (H:RH E w L h d Sv.run) (F:Fr E w L P m fr vs) (hl:fr.stk.length≤1000) (hn:fr.stk=[]) (a b c n:Int) (va:Value) :
  Calls Tryz.prog 120 #[.pointer (some ⟨E.hb,0,none⟩),.pointer (some ⟨P.cb,0,none⟩),.agg #[.int .i64 17,.int .i64 a,.int .i64 b,.int .i64 c,.int .i64 n,va]] w (GiveR E L P m d w (.stop 6 h) fr):=by
 have hKX:∀ k,KX E L P k→k < w.heap.size:=fun k hk=>by
  rcases hk with hk | hk | hk
  ·exact (own_lo H.rows hk).2
  ·rw [hk];exact F.cbw
  ·rw [hk];exact F.lbw
 have HH:=Lib.hid H
 have hhb0:E.hb < w.heap.size:=H.rows.base.2
 have hhb1:E.hb < w.heap.size+1:=by omega
 obtain ⟨Z,hZ⟩:∃ Z:Nat→Prop,Hid (Z=fun k=>P.Z k∨k=w.heap.size∨k=w.heap.size+1):=⟨_,rfl⟩
 have HB0:Below w.heap.size w ((w.alloc (.cells #[.int .i64 17,.int .i64 a,.int .i64 b,.int .i64 c,.int .i64 n,va] 66)).alloc (.cells #[.int .i64 0,.int .i64 0] 72)):=by exact Rd.byB
 have H0:=Lib.hid (H.below HB0)
 have F0:=Lib.hid (F.zone HB0 Z (fun k hk=>by rw [hZ.out] at hk;rcases hk with q | q | q;exact .inl q;exact .inr (by omega);exact .inr (by omega)) (fun k hk=>by rw [hZ.out] at hk;rcases hk with q | q | q;exact Nat.lt_of_lt_of_le (F.zlt k q) HB0.size;(simp;omega);(simp;omega)))
 have nx0:¬ KX E L (P.zone Z) w.heap.size:=fun hk=>by have:=hKX _ hk;omega
 have nx1:¬ KX E L (P.zone Z) (w.heap.size+1):=fun hk=>by have:=hKX _ hk;omega
 have z1:Hid (Z (w.heap.size+1)):=by show Z _;rw [hZ.out];exact .inr (.inr rfl)
 have zp:Hid (∀ k,P.Z k→Z k):=fun k hk=>by rw [hZ.out];exact .inl hk
 have hkx:=Lib.hid hKX
 have KB0:=Lib.hid (kpB (X:=KX E L P) HB0)
 clear H F hZ HB0 hKX
 go_enter Tryz.func120,Tryz.ntmps120
 go_wp2_with (go_at_call 64;refine (take1S H0.out F0.out hn).mono ?_;rintro e w1 ⟨vt,vs1,rfl,V1,F1,H1,K1⟩;have i0:=K1.cell (c:=w.heap.size) (o:=0) (v:=.int .i64 17) (by go_simp) nx0;have i1:=K1.cell (c:=w.heap.size) (o:=1) (v:=.int .i64 a) (by go_simp) nx0;have i2:=K1.cell (c:=w.heap.size) (o:=2) (v:=.int .i64 b) (by go_simp) nx0;have i4:=K1.cell (c:=w.heap.size) (o:=4) (v:=.int .i64 n) (by go_simp) nx0;have r0:=K1.cell (c:=w.heap.size+1) (o:=0) (v:=.int .i64 0) (by go_simp) nx1;have q0:=K1.frz (c:=w.heap.size+1) (o:=0) (b:=false) (by go_simp) (by simp) nx1;have r1:=K1.cell (c:=w.heap.size+1) (o:=1) (v:=.int .i64 0) (by go_simp) nx1;have q1:=K1.frz (c:=w.heap.size+1) (o:=1) (b:=false) (by go_simp) (by simp) nx1;have hb1:=H1.rows.base.2;have hsz1:w.heap.size+1 < w1.heap.size:=(by have:=K1.size;simp at this;omega);have c12:=H1.c12;have f12:=H1.fz 12 (by decide);have f6:=H1.fz 6 (by decide);have c6:=H1.c6;replace V1:=Lib.hid V1;replace F1:=Lib.hid F1;replace H1:=Lib.hid H1;replace K1:=Lib.hid (KB0.out.trans K1 (fun y hy=>.inl hy)))
 refine bodyPost_ret (v:=.agg #[.int .i64 0,.int .i64 0]) (by simp [results,Tryz.results120,go_sem] <;> go_simp) rfl ?_
 exact give_of (b:=w.heap.size+1) (by omega) (by first | omega | (simp;omega)) HH.out (rrm_stop H1.out (Kp.refl _ _) rfl) (F1.out) z1.out zp.out hkx.out (K1.out) (by first | exact kp2 _ _ _ _ | exact kp2d _ _ _ _)
set_option maxRecDepth 100000 in
theorem giv18S (H:RH E w L h d Sv.run) (F:Fr E w L P m fr vs) (hl:fr.stk.length≤1000) (hn:fr.stk=[]) (a b c n:Int) (va:Value) :
  Calls Tryz.prog 120 #[.pointer (some ⟨E.hb,0,none⟩),.pointer (some ⟨P.cb,0,none⟩),.agg #[.int .i64 18,.int .i64 a,.int .i64 b,.int .i64 c,.int .i64 n,va]] w (GiveR E L P m d w (.stop 6 h) fr):=by
 have hKX:∀ k,KX E L P k→k < w.heap.size:=fun k hk=>by
  rcases hk with hk | hk | hk
  ·exact (own_lo H.rows hk).2
  ·rw [hk];exact F.cbw
  ·rw [hk];exact F.lbw
 have HH:=Lib.hid H
 have hhb0:E.hb < w.heap.size:=H.rows.base.2
 have hhb1:E.hb < w.heap.size+1:=by omega
 obtain ⟨Z,hZ⟩:∃ Z:Nat→Prop,Hid (Z=fun k=>P.Z k∨k=w.heap.size∨k=w.heap.size+1):=⟨_,rfl⟩
 have HB0:Below w.heap.size w ((w.alloc (.cells #[.int .i64 18,.int .i64 a,.int .i64 b,.int .i64 c,.int .i64 n,va] 66)).alloc (.cells #[.int .i64 0,.int .i64 0] 72)):=by exact Rd.byB
 have H0:=Lib.hid (H.below HB0)
 have F0:=Lib.hid (F.zone HB0 Z (fun k hk=>by rw [hZ.out] at hk;rcases hk with q | q | q;exact .inl q;exact .inr (by omega);exact .inr (by omega)) (fun k hk=>by rw [hZ.out] at hk;rcases hk with q | q | q;exact Nat.lt_of_lt_of_le (F.zlt k q) HB0.size;(simp;omega);(simp;omega)))
 have nx0:¬ KX E L (P.zone Z) w.heap.size:=fun hk=>by have:=hKX _ hk;omega
 have nx1:¬ KX E L (P.zone Z) (w.heap.size+1):=fun hk=>by have:=hKX _ hk;omega
 have z1:Hid (Z (w.heap.size+1)):=by show Z _;rw [hZ.out];exact .inr (.inr rfl)
 have zp:Hid (∀ k,P.Z k→Z k):=fun k hk=>by rw [hZ.out];exact .inl hk
 have hkx:=Lib.hid hKX
 have KB0:=Lib.hid (kpB (X:=KX E L P) HB0)
 clear H F hZ HB0 hKX
 go_enter Tryz.func120,Tryz.ntmps120
 go_wp2_with (go_at_call 64;refine (take1S H0.out F0.out hn).mono ?_;rintro e w1 ⟨vt,vs1,rfl,V1,F1,H1,K1⟩;have i0:=K1.cell (c:=w.heap.size) (o:=0) (v:=.int .i64 18) (by go_simp) nx0;have i1:=K1.cell (c:=w.heap.size) (o:=1) (v:=.int .i64 a) (by go_simp) nx0;have i2:=K1.cell (c:=w.heap.size) (o:=2) (v:=.int .i64 b) (by go_simp) nx0;have i4:=K1.cell (c:=w.heap.size) (o:=4) (v:=.int .i64 n) (by go_simp) nx0;have r0:=K1.cell (c:=w.heap.size+1) (o:=0) (v:=.int .i64 0) (by go_simp) nx1;have q0:=K1.frz (c:=w.heap.size+1) (o:=0) (b:=false) (by go_simp) (by simp) nx1;have r1:=K1.cell (c:=w.heap.size+1) (o:=1) (v:=.int .i64 0) (by go_simp) nx1;have q1:=K1.frz (c:=w.heap.size+1) (o:=1) (b:=false) (by go_simp) (by simp) nx1;have hb1:=H1.rows.base.2;have hsz1:w.heap.size+1 < w1.heap.size:=(by have:=K1.size;simp at this;omega);have c12:=H1.c12;have f12:=H1.fz 12 (by decide);have f6:=H1.fz 6 (by decide);have c6:=H1.c6;replace V1:=Lib.hid V1;replace F1:=Lib.hid F1;replace H1:=Lib.hid H1;replace K1:=Lib.hid (KB0.out.trans K1 (fun y hy=>.inl hy)))
 refine bodyPost_ret (v:=.agg #[.int .i64 0,.int .i64 0]) (by simp [results,Tryz.results120,go_sem] <;> go_simp) rfl ?_
 exact give_of (b:=w.heap.size+1) (by omega) (by first | omega | (simp;omega)) HH.out (rrm_stop H1.out (Kp.refl _ _) rfl) (F1.out) z1.out zp.out hkx.out (K1.out) (by first | exact kp2 _ _ _ _ | exact kp2d _ _ _ _)
end
end Rhw
namespace Rhw
open Num Rd D Run Mem HierW Hpw
section
variable {E:Ev}{w w':World}{L L':RL}{h h':Hp}{d:Nat}{s:Sv}{P:Pl}{m:Me}{fr:Sf}{vs:Value}
set_option maxRecDepth 100000 in
theorem giv6S (H:RH E w L h d Sv.run) (F:Fr E w L P m fr vs) (hl:fr.stk.length≤1000) (hn:fr.stk=[]∨fr.stk.dropLast=[]) (a b c n:Int) (va:Value) :
  Calls Tryz.prog 120 #[.pointer (some ⟨E.hb,0,none⟩),.pointer (some ⟨P.cb,0,none⟩),.agg #[.int .i64 6,.int .i64 a,.int .i64 b,.int .i64 c,.int .i64 n,va]] w (GiveR E L P m d w (.stop 6 h) fr):=by
 have hKX:∀ k,KX E L P k→k < w.heap.size:=fun k hk=>by
  rcases hk with hk | hk | hk
  ·exact (own_lo H.rows hk).2
  ·rw [hk];exact F.cbw
  ·rw [hk];exact F.lbw
 have HH:=Lib.hid H
 have hhb0:E.hb < w.heap.size:=H.rows.base.2
 have hhb1:E.hb < w.heap.size+1:=by omega
 obtain ⟨Z,hZ⟩:∃ Z:Nat→Prop,Hid (Z=fun k=>P.Z k∨k=w.heap.size∨k=w.heap.size+1):=⟨_,rfl⟩
 have HB0:Below w.heap.size w ((w.alloc (.cells #[.int .i64 6,.int .i64 a,.int .i64 b,.int .i64 c,.int .i64 n,va] 66)).alloc (.cells #[.int .i64 0,.int .i64 0] 72)):=by exact Rd.byB
 have H0:=Lib.hid (H.below HB0)
 have F0:=Lib.hid (F.zone HB0 Z (fun k hk=>by rw [hZ.out] at hk;rcases hk with q | q | q;exact .inl q;exact .inr (by omega);exact .inr (by omega)) (fun k hk=>by rw [hZ.out] at hk;rcases hk with q | q | q;exact Nat.lt_of_lt_of_le (F.zlt k q) HB0.size;(simp;omega);(simp;omega)))
 have nx0:¬ KX E L (P.zone Z) w.heap.size:=fun hk=>by have:=hKX _ hk;omega
 have nx1:¬ KX E L (P.zone Z) (w.heap.size+1):=fun hk=>by have:=hKX _ hk;omega
 have z1:Hid (Z (w.heap.size+1)):=by show Z _;rw [hZ.out];exact .inr (.inr rfl)
 have zp:Hid (∀ k,P.Z k→Z k):=fun k hk=>by rw [hZ.out];exact .inl hk
 have hkx:=Lib.hid hKX
 have KB0:=Lib.hid (kpB (X:=KX E L P) HB0)
 clear H F hZ HB0 hKX
 go_enter Tryz.func120,Tryz.ntmps120
 go_wp2_with (go_at_call 64;refine (take2S H0.out F0.out hn).mono ?_;rintro e w1 ⟨vt,vs1,rfl,V1,F1,H1,K1⟩;have i0:=K1.cell (c:=w.heap.size) (o:=0) (v:=.int .i64 6) (by go_simp) nx0;have i1:=K1.cell (c:=w.heap.size) (o:=1) (v:=.int .i64 a) (by go_simp) nx0;have i2:=K1.cell (c:=w.heap.size) (o:=2) (v:=.int .i64 b) (by go_simp) nx0;have i4:=K1.cell (c:=w.heap.size) (o:=4) (v:=.int .i64 n) (by go_simp) nx0;have r0:=K1.cell (c:=w.heap.size+1) (o:=0) (v:=.int .i64 0) (by go_simp) nx1;have q0:=K1.frz (c:=w.heap.size+1) (o:=0) (b:=false) (by go_simp) (by simp) nx1;have r1:=K1.cell (c:=w.heap.size+1) (o:=1) (v:=.int .i64 0) (by go_simp) nx1;have q1:=K1.frz (c:=w.heap.size+1) (o:=1) (b:=false) (by go_simp) (by simp) nx1;have hb1:=H1.rows.base.2;have hsz1:w.heap.size+1 < w1.heap.size:=(by have:=K1.size;simp at this;omega);have c12:=H1.c12;have f12:=H1.fz 12 (by decide);have f6:=H1.fz 6 (by decide);have c6:=H1.c6;replace V1:=Lib.hid V1;replace F1:=Lib.hid F1;replace H1:=Lib.hid H1;replace K1:=Lib.hid (KB0.out.trans K1 (fun y hy=>.inl hy)))
 refine bodyPost_ret (v:=.agg #[.int .i64 0,.int .i64 0]) (by simp [results,Tryz.results120,go_sem] <;> go_simp) rfl ?_
 exact give_of (b:=w.heap.size+1) (by omega) (by first | omega | (simp;omega)) HH.out (rrm_stop H1.out (Kp.refl _ _) rfl) (F1.out) z1.out zp.out hkx.out (K1.out) (by first | exact kp2 _ _ _ _ | exact kp2d _ _ _ _)
set_option maxRecDepth 100000 in
theorem giv7S (H:RH E w L h d Sv.run) (F:Fr E w L P m fr vs) (hl:fr.stk.length≤1000) (hn:fr.stk=[]∨fr.stk.dropLast=[]) (a b c n:Int) (va:Value) :
  Calls Tryz.prog 120 #[.pointer (some ⟨E.hb,0,none⟩),.pointer (some ⟨P.cb,0,none⟩),.agg #[.int .i64 7,.int .i64 a,.int .i64 b,.int .i64 c,.int .i64 n,va]] w (GiveR E L P m d w (.stop 6 h) fr):=by
 have hKX:∀ k,KX E L P k→k < w.heap.size:=fun k hk=>by
  rcases hk with hk | hk | hk
  ·exact (own_lo H.rows hk).2
  ·rw [hk];exact F.cbw
  ·rw [hk];exact F.lbw
 have HH:=Lib.hid H
 have hhb0:E.hb < w.heap.size:=H.rows.base.2
 have hhb1:E.hb < w.heap.size+1:=by omega
 obtain ⟨Z,hZ⟩:∃ Z:Nat→Prop,Hid (Z=fun k=>P.Z k∨k=w.heap.size∨k=w.heap.size+1):=⟨_,rfl⟩
 have HB0:Below w.heap.size w ((w.alloc (.cells #[.int .i64 7,.int .i64 a,.int .i64 b,.int .i64 c,.int .i64 n,va] 66)).alloc (.cells #[.int .i64 0,.int .i64 0] 72)):=by exact Rd.byB
 have H0:=Lib.hid (H.below HB0)
 have F0:=Lib.hid (F.zone HB0 Z (fun k hk=>by rw [hZ.out] at hk;rcases hk with q | q | q;exact .inl q;exact .inr (by omega);exact .inr (by omega)) (fun k hk=>by rw [hZ.out] at hk;rcases hk with q | q | q;exact Nat.lt_of_lt_of_le (F.zlt k q) HB0.size;(simp;omega);(simp;omega)))
 have nx0:¬ KX E L (P.zone Z) w.heap.size:=fun hk=>by have:=hKX _ hk;omega
 have nx1:¬ KX E L (P.zone Z) (w.heap.size+1):=fun hk=>by have:=hKX _ hk;omega
 have z1:Hid (Z (w.heap.size+1)):=by show Z _;rw [hZ.out];exact .inr (.inr rfl)
 have zp:Hid (∀ k,P.Z k→Z k):=fun k hk=>by rw [hZ.out];exact .inl hk
 have hkx:=Lib.hid hKX
 have KB0:=Lib.hid (kpB (X:=KX E L P) HB0)
 clear H F hZ HB0 hKX
 go_enter Tryz.func120,Tryz.ntmps120
 go_wp2_with (go_at_call 64;refine (take2S H0.out F0.out hn).mono ?_;rintro e w1 ⟨vt,vs1,rfl,V1,F1,H1,K1⟩;have i0:=K1.cell (c:=w.heap.size) (o:=0) (v:=.int .i64 7) (by go_simp) nx0;have i1:=K1.cell (c:=w.heap.size) (o:=1) (v:=.int .i64 a) (by go_simp) nx0;have i2:=K1.cell (c:=w.heap.size) (o:=2) (v:=.int .i64 b) (by go_simp) nx0;have i4:=K1.cell (c:=w.heap.size) (o:=4) (v:=.int .i64 n) (by go_simp) nx0;have r0:=K1.cell (c:=w.heap.size+1) (o:=0) (v:=.int .i64 0) (by go_simp) nx1;have q0:=K1.frz (c:=w.heap.size+1) (o:=0) (b:=false) (by go_simp) (by simp) nx1;have r1:=K1.cell (c:=w.heap.size+1) (o:=1) (v:=.int .i64 0) (by go_simp) nx1;have q1:=K1.frz (c:=w.heap.size+1) (o:=1) (b:=false) (by go_simp) (by simp) nx1;have hb1:=H1.rows.base.2;have hsz1:w.heap.size+1 < w1.heap.size:=(by have:=K1.size;simp at this;omega);have c12:=H1.c12;have f12:=H1.fz 12 (by decide);have f6:=H1.fz 6 (by decide);have c6:=H1.c6;replace V1:=Lib.hid V1;replace F1:=Lib.hid F1;replace H1:=Lib.hid H1;replace K1:=Lib.hid (KB0.out.trans K1 (fun y hy=>.inl hy)))
 refine bodyPost_ret (v:=.agg #[.int .i64 0,.int .i64 0]) (by simp [results,Tryz.results120,go_sem] <;> go_simp) rfl ?_
 exact give_of (b:=w.heap.size+1) (by omega) (by first | omega | (simp;omega)) HH.out (rrm_stop H1.out (Kp.refl _ _) rfl) (F1.out) z1.out zp.out hkx.out (K1.out) (by first | exact kp2 _ _ _ _ | exact kp2d _ _ _ _)
set_option maxRecDepth 100000 in
theorem giv10S (H:RH E w L h d Sv.run) (F:Fr E w L P m fr vs) (hl:fr.stk.length≤1000) (hn:fr.stk=[]∨fr.stk.dropLast=[]) (a b c n:Int) (va:Value) :
  Calls Tryz.prog 120 #[.pointer (some ⟨E.hb,0,none⟩),.pointer (some ⟨P.cb,0,none⟩),.agg #[.int .i64 10,.int .i64 a,.int .i64 b,.int .i64 c,.int .i64 n,va]] w (GiveR E L P m d w (.stop 6 h) fr):=by
 have hKX:∀ k,KX E L P k→k < w.heap.size:=fun k hk=>by
  rcases hk with hk | hk | hk
  ·exact (own_lo H.rows hk).2
  ·rw [hk];exact F.cbw
  ·rw [hk];exact F.lbw
 have HH:=Lib.hid H
 have hhb0:E.hb < w.heap.size:=H.rows.base.2
 have hhb1:E.hb < w.heap.size+1:=by omega
 obtain ⟨Z,hZ⟩:∃ Z:Nat→Prop,Hid (Z=fun k=>P.Z k∨k=w.heap.size∨k=w.heap.size+1):=⟨_,rfl⟩
 have HB0:Below w.heap.size w ((w.alloc (.cells #[.int .i64 10,.int .i64 a,.int .i64 b,.int .i64 c,.int .i64 n,va] 66)).alloc (.cells #[.int .i64 0,.int .i64 0] 72)):=by exact Rd.byB
 have H0:=Lib.hid (H.below HB0)
 have F0:=Lib.hid (F.zone HB0 Z (fun k hk=>by rw [hZ.out] at hk;rcases hk with q | q | q;exact .inl q;exact .inr (by omega);exact .inr (by omega)) (fun k hk=>by rw [hZ.out] at hk;rcases hk with q | q | q;exact Nat.lt_of_lt_of_le (F.zlt k q) HB0.size;(simp;omega);(simp;omega)))
 have nx0:¬ KX E L (P.zone Z) w.heap.size:=fun hk=>by have:=hKX _ hk;omega
 have nx1:¬ KX E L (P.zone Z) (w.heap.size+1):=fun hk=>by have:=hKX _ hk;omega
 have z1:Hid (Z (w.heap.size+1)):=by show Z _;rw [hZ.out];exact .inr (.inr rfl)
 have zp:Hid (∀ k,P.Z k→Z k):=fun k hk=>by rw [hZ.out];exact .inl hk
 have hkx:=Lib.hid hKX
 have KB0:=Lib.hid (kpB (X:=KX E L P) HB0)
 clear H F hZ HB0 hKX
 go_enter Tryz.func120,Tryz.ntmps120
 go_wp2_with (go_at_call 64;refine (take2S H0.out F0.out hn).mono ?_;rintro e w1 ⟨vt,vs1,rfl,V1,F1,H1,K1⟩;have i0:=K1.cell (c:=w.heap.size) (o:=0) (v:=.int .i64 10) (by go_simp) nx0;have i1:=K1.cell (c:=w.heap.size) (o:=1) (v:=.int .i64 a) (by go_simp) nx0;have i2:=K1.cell (c:=w.heap.size) (o:=2) (v:=.int .i64 b) (by go_simp) nx0;have i4:=K1.cell (c:=w.heap.size) (o:=4) (v:=.int .i64 n) (by go_simp) nx0;have r0:=K1.cell (c:=w.heap.size+1) (o:=0) (v:=.int .i64 0) (by go_simp) nx1;have q0:=K1.frz (c:=w.heap.size+1) (o:=0) (b:=false) (by go_simp) (by simp) nx1;have r1:=K1.cell (c:=w.heap.size+1) (o:=1) (v:=.int .i64 0) (by go_simp) nx1;have q1:=K1.frz (c:=w.heap.size+1) (o:=1) (b:=false) (by go_simp) (by simp) nx1;have hb1:=H1.rows.base.2;have hsz1:w.heap.size+1 < w1.heap.size:=(by have:=K1.size;simp at this;omega);have c12:=H1.c12;have f12:=H1.fz 12 (by decide);have f6:=H1.fz 6 (by decide);have c6:=H1.c6;replace V1:=Lib.hid V1;replace F1:=Lib.hid F1;replace H1:=Lib.hid H1;replace K1:=Lib.hid (KB0.out.trans K1 (fun y hy=>.inl hy)))
 refine bodyPost_ret (v:=.agg #[.int .i64 0,.int .i64 0]) (by simp [results,Tryz.results120,go_sem] <;> go_simp) rfl ?_
 exact give_of (b:=w.heap.size+1) (by omega) (by first | omega | (simp;omega)) HH.out (rrm_stop H1.out (Kp.refl _ _) rfl) (F1.out) z1.out zp.out hkx.out (K1.out) (by first | exact kp2 _ _ _ _ | exact kp2d _ _ _ _)
set_option maxRecDepth 100000 in
theorem giv8 (H:RH E w L h d Sv.run) (F:Fr E w L P m fr vs) (hl:fr.stk.length≤1000) (hn:fr.stk≠[]) (a b c n:Int) (va:Value) :
  Calls Tryz.prog 120 #[.pointer (some ⟨E.hb,0,none⟩),.pointer (some ⟨P.cb,0,none⟩),.agg #[.int .i64 8,.int .i64 a,.int .i64 b,.int .i64 c,.int .i64 n,va]] w (GiveR E L P m d w (if (top fr.stk).kind=1 then .ok ⟨2,(top fr.stk).n⟩ h else .stop 6 h) ⟨fr.loc,fr.stk.dropLast,fr.at_⟩):=by
 have hKX:∀ k,KX E L P k→k < w.heap.size:=fun k hk=>by
  rcases hk with hk | hk | hk
  ·exact (own_lo H.rows hk).2
  ·rw [hk];exact F.cbw
  ·rw [hk];exact F.lbw
 have HH:=Lib.hid H
 have hhb0:E.hb < w.heap.size:=H.rows.base.2
 have hhb1:E.hb < w.heap.size+1:=by omega
 obtain ⟨Z,hZ⟩:∃ Z:Nat→Prop,Hid (Z=fun k=>P.Z k∨k=w.heap.size∨k=w.heap.size+1):=⟨_,rfl⟩
 have HB0:Below w.heap.size w ((w.alloc (.cells #[.int .i64 8,.int .i64 a,.int .i64 b,.int .i64 c,.int .i64 n,va] 66)).alloc (.cells #[.int .i64 0,.int .i64 0] 72)):=by exact Rd.byB
 have H0:=Lib.hid (H.below HB0)
 have F0:=Lib.hid (F.zone HB0 Z (fun k hk=>by rw [hZ.out] at hk;rcases hk with q | q | q;exact .inl q;exact .inr (by omega);exact .inr (by omega)) (fun k hk=>by rw [hZ.out] at hk;rcases hk with q | q | q;exact Nat.lt_of_lt_of_le (F.zlt k q) HB0.size;(simp;omega);(simp;omega)))
 have nx0:¬ KX E L (P.zone Z) w.heap.size:=fun hk=>by have:=hKX _ hk;omega
 have nx1:¬ KX E L (P.zone Z) (w.heap.size+1):=fun hk=>by have:=hKX _ hk;omega
 have z1:Hid (Z (w.heap.size+1)):=by show Z _;rw [hZ.out];exact .inr (.inr rfl)
 have zp:Hid (∀ k,P.Z k→Z k):=fun k hk=>by rw [hZ.out];exact .inl hk
 have hkx:=Lib.hid hKX
 have KB0:=Lib.hid (kpB (X:=KX E L P) HB0)
 clear H F hZ HB0 hKX
 obtain ⟨v,hv⟩:∃ v,Hid (top fr.stk=v):=⟨_,rfl⟩
 rw [hv.out]
 by_cases q:v.kind=1
 ·have qb:(v.kind==1)=true:=by simpa using q
  rw [if_pos q]
  clear q
  go_enter Tryz.func120,Tryz.ntmps120
  go_wp2_with (first | (go_at_call 64;refine (take1R H0.out F0.out hn hl).mono ?_;rintro e w1 ⟨vt,vs1,rfl,V1,F1,H1,K1⟩;have i0:=K1.cell (c:=w.heap.size) (o:=0) (v:=.int .i64 8) (by go_simp) nx0;have i1:=K1.cell (c:=w.heap.size) (o:=1) (v:=.int .i64 a) (by go_simp) nx0;have i2:=K1.cell (c:=w.heap.size) (o:=2) (v:=.int .i64 b) (by go_simp) nx0;have i4:=K1.cell (c:=w.heap.size) (o:=4) (v:=.int .i64 n) (by go_simp) nx0;have r0:=K1.cell (c:=w.heap.size+1) (o:=0) (v:=.int .i64 0) (by go_simp) nx1;have q0:=K1.frz (c:=w.heap.size+1) (o:=0) (b:=false) (by go_simp) (by simp) nx1;have r1:=K1.cell (c:=w.heap.size+1) (o:=1) (v:=.int .i64 0) (by go_simp) nx1;have q1:=K1.frz (c:=w.heap.size+1) (o:=1) (b:=false) (by go_simp) (by simp) nx1;obtain ⟨vb,vo,vcap,rfl,v1,v2,v3,v4,v5,v6⟩:=VS.one V1;rw [hv.out] at v5 v6;have vne:=vs_ne v4;have vne2:=vne.symm;have hb1:=H1.rows.base.2;have hsz1:w.heap.size+1 < w1.heap.size:=(by have:=K1.size;simp at this;omega);have c12:=H1.c12;have f12:=H1.fz 12 (by decide);have f6:=H1.fz 6 (by decide);have c6:=H1.c6;replace V1:=Lib.hid V1;replace F1:=Lib.hid F1;replace H1:=Lib.hid H1;replace K1:=Lib.hid (KB0.out.trans K1 (fun y hy=>.inl hy))) | (go_at_call 63;refine (mustT H1.out rfl).mono ?_;rintro e w2 ⟨rfl,rfl⟩))
  refine bodyPost_ret (v:=.agg #[.int .i64 2,.int .i64 v.n]) (by simp [results,Tryz.results120,go_sem] <;> go_simp) rfl ?_
  exact give_of (b:=w.heap.size+1) (by omega) (by first | omega | (simp;omega)) HH.out (rrm_ok H1.out rfl rfl rfl) (F1.out) z1.out zp.out hkx.out (K1.out) (by first | exact kp2 _ _ _ _ | exact kp2d _ _ _ _)
 ·have qb:(v.kind==1)=false:=by simpa using q
  rw [if_neg q]
  clear q
  go_enter Tryz.func120,Tryz.ntmps120
  go_wp2_with (first | (go_at_call 64;refine (take1R H0.out F0.out hn hl).mono ?_;rintro e w1 ⟨vt,vs1,rfl,V1,F1,H1,K1⟩;have i0:=K1.cell (c:=w.heap.size) (o:=0) (v:=.int .i64 8) (by go_simp) nx0;have i1:=K1.cell (c:=w.heap.size) (o:=1) (v:=.int .i64 a) (by go_simp) nx0;have i2:=K1.cell (c:=w.heap.size) (o:=2) (v:=.int .i64 b) (by go_simp) nx0;have i4:=K1.cell (c:=w.heap.size) (o:=4) (v:=.int .i64 n) (by go_simp) nx0;have r0:=K1.cell (c:=w.heap.size+1) (o:=0) (v:=.int .i64 0) (by go_simp) nx1;have q0:=K1.frz (c:=w.heap.size+1) (o:=0) (b:=false) (by go_simp) (by simp) nx1;have r1:=K1.cell (c:=w.heap.size+1) (o:=1) (v:=.int .i64 0) (by go_simp) nx1;have q1:=K1.frz (c:=w.heap.size+1) (o:=1) (b:=false) (by go_simp) (by simp) nx1;obtain ⟨vb,vo,vcap,rfl,v1,v2,v3,v4,v5,v6⟩:=VS.one V1;rw [hv.out] at v5 v6;have vne:=vs_ne v4;have vne2:=vne.symm;have hb1:=H1.rows.base.2;have hsz1:w.heap.size+1 < w1.heap.size:=(by have:=K1.size;simp at this;omega);have c12:=H1.c12;have f12:=H1.fz 12 (by decide);have f6:=H1.fz 6 (by decide);have c6:=H1.c6;replace V1:=Lib.hid V1;replace F1:=Lib.hid F1;replace H1:=Lib.hid H1;replace K1:=Lib.hid (KB0.out.trans K1 (fun y hy=>.inl hy))) | (go_at_call 63;refine (mustF H1.out rfl).mono ?_;rintro e w2 ⟨rfl,rfl⟩))
  refine bodyPost_ret (v:=.agg #[.int .i64 2,.int .i64 v.n]) (by simp [results,Tryz.results120,go_sem] <;> go_simp) rfl ?_
  obtain ⟨e1,e2⟩:=ended H1.out rfl 6 (Below.refl _ _)
  exact give_of (b:=w.heap.size+1) (by omega) (by first | omega | (simp;omega)) HH.out (rrm_stop e1 e2 rfl) (F1.out) z1.out zp.out hkx.out (K1.out) (by first | exact kp2 _ _ _ _ | exact kp2d _ _ _ _)
set_option maxRecDepth 100000 in
theorem giv9 (H:RH E w L h d Sv.run) (F:Fr E w L P m fr vs) (hl:fr.stk.length≤1000) (hn:fr.stk≠[]) (a b c n:Int) (va:Value) :
  Calls Tryz.prog 120 #[.pointer (some ⟨E.hb,0,none⟩),.pointer (some ⟨P.cb,0,none⟩),.agg #[.int .i64 9,.int .i64 a,.int .i64 b,.int .i64 c,.int .i64 n,va]] w (GiveR E L P m d w (if (top fr.stk).kind=2 then .ok ⟨1,(wrap32 (top fr.stk).n)⟩ h else .stop 6 h) ⟨fr.loc,fr.stk.dropLast,fr.at_⟩):=by
 have hKX:∀ k,KX E L P k→k < w.heap.size:=fun k hk=>by
  rcases hk with hk | hk | hk
  ·exact (own_lo H.rows hk).2
  ·rw [hk];exact F.cbw
  ·rw [hk];exact F.lbw
 have HH:=Lib.hid H
 have hhb0:E.hb < w.heap.size:=H.rows.base.2
 have hhb1:E.hb < w.heap.size+1:=by omega
 obtain ⟨Z,hZ⟩:∃ Z:Nat→Prop,Hid (Z=fun k=>P.Z k∨k=w.heap.size∨k=w.heap.size+1):=⟨_,rfl⟩
 have HB0:Below w.heap.size w ((w.alloc (.cells #[.int .i64 9,.int .i64 a,.int .i64 b,.int .i64 c,.int .i64 n,va] 66)).alloc (.cells #[.int .i64 0,.int .i64 0] 72)):=by exact Rd.byB
 have H0:=Lib.hid (H.below HB0)
 have F0:=Lib.hid (F.zone HB0 Z (fun k hk=>by rw [hZ.out] at hk;rcases hk with q | q | q;exact .inl q;exact .inr (by omega);exact .inr (by omega)) (fun k hk=>by rw [hZ.out] at hk;rcases hk with q | q | q;exact Nat.lt_of_lt_of_le (F.zlt k q) HB0.size;(simp;omega);(simp;omega)))
 have nx0:¬ KX E L (P.zone Z) w.heap.size:=fun hk=>by have:=hKX _ hk;omega
 have nx1:¬ KX E L (P.zone Z) (w.heap.size+1):=fun hk=>by have:=hKX _ hk;omega
 have z1:Hid (Z (w.heap.size+1)):=by show Z _;rw [hZ.out];exact .inr (.inr rfl)
 have zp:Hid (∀ k,P.Z k→Z k):=fun k hk=>by rw [hZ.out];exact .inl hk
 have hkx:=Lib.hid hKX
 have KB0:=Lib.hid (kpB (X:=KX E L P) HB0)
 clear H F hZ HB0 hKX
 obtain ⟨v,hv⟩:∃ v,Hid (top fr.stk=v):=⟨_,rfl⟩
 rw [hv.out]
 by_cases q:v.kind=2
 ·have qb:(v.kind==2)=true:=by simpa using q
  rw [if_pos q]
  clear q
  go_enter Tryz.func120,Tryz.ntmps120
  go_wp2_with (first | (go_at_call 64;refine (take1R H0.out F0.out hn hl).mono ?_;rintro e w1 ⟨vt,vs1,rfl,V1,F1,H1,K1⟩;have i0:=K1.cell (c:=w.heap.size) (o:=0) (v:=.int .i64 9) (by go_simp) nx0;have i1:=K1.cell (c:=w.heap.size) (o:=1) (v:=.int .i64 a) (by go_simp) nx0;have i2:=K1.cell (c:=w.heap.size) (o:=2) (v:=.int .i64 b) (by go_simp) nx0;have i4:=K1.cell (c:=w.heap.size) (o:=4) (v:=.int .i64 n) (by go_simp) nx0;have r0:=K1.cell (c:=w.heap.size+1) (o:=0) (v:=.int .i64 0) (by go_simp) nx1;have q0:=K1.frz (c:=w.heap.size+1) (o:=0) (b:=false) (by go_simp) (by simp) nx1;have r1:=K1.cell (c:=w.heap.size+1) (o:=1) (v:=.int .i64 0) (by go_simp) nx1;have q1:=K1.frz (c:=w.heap.size+1) (o:=1) (b:=false) (by go_simp) (by simp) nx1;obtain ⟨vb,vo,vcap,rfl,v1,v2,v3,v4,v5,v6⟩:=VS.one V1;rw [hv.out] at v5 v6;have vne:=vs_ne v4;have vne2:=vne.symm;have hb1:=H1.rows.base.2;have hsz1:w.heap.size+1 < w1.heap.size:=(by have:=K1.size;simp at this;omega);have c12:=H1.c12;have f12:=H1.fz 12 (by decide);have f6:=H1.fz 6 (by decide);have c6:=H1.c6;replace V1:=Lib.hid V1;replace F1:=Lib.hid F1;replace H1:=Lib.hid H1;replace K1:=Lib.hid (KB0.out.trans K1 (fun y hy=>.inl hy))) | (go_at_call 63;refine (mustT H1.out rfl).mono ?_;rintro e w2 ⟨rfl,rfl⟩) | (go_at_call 58;refine (NumW.rnarrow _ _).mono ?_;rintro e w2 ⟨rfl,rfl⟩))
  refine bodyPost_ret (v:=.agg #[.int .i64 1,.int .i64 (wrap32 v.n)]) (by simp [results,Tryz.results120,go_sem] <;> go_simp) rfl ?_
  exact give_of (b:=w.heap.size+1) (by omega) (by first | omega | (simp;omega)) HH.out (rrm_ok H1.out rfl rfl rfl) (F1.out) z1.out zp.out hkx.out (K1.out) (by first | exact kp2 _ _ _ _ | exact kp2d _ _ _ _)
 ·have qb:(v.kind==2)=false:=by simpa using q
  rw [if_neg q]
  clear q
  go_enter Tryz.func120,Tryz.ntmps120
  go_wp2_with (first | (go_at_call 64;refine (take1R H0.out F0.out hn hl).mono ?_;rintro e w1 ⟨vt,vs1,rfl,V1,F1,H1,K1⟩;have i0:=K1.cell (c:=w.heap.size) (o:=0) (v:=.int .i64 9) (by go_simp) nx0;have i1:=K1.cell (c:=w.heap.size) (o:=1) (v:=.int .i64 a) (by go_simp) nx0;have i2:=K1.cell (c:=w.heap.size) (o:=2) (v:=.int .i64 b) (by go_simp) nx0;have i4:=K1.cell (c:=w.heap.size) (o:=4) (v:=.int .i64 n) (by go_simp) nx0;have r0:=K1.cell (c:=w.heap.size+1) (o:=0) (v:=.int .i64 0) (by go_simp) nx1;have q0:=K1.frz (c:=w.heap.size+1) (o:=0) (b:=false) (by go_simp) (by simp) nx1;have r1:=K1.cell (c:=w.heap.size+1) (o:=1) (v:=.int .i64 0) (by go_simp) nx1;have q1:=K1.frz (c:=w.heap.size+1) (o:=1) (b:=false) (by go_simp) (by simp) nx1;obtain ⟨vb,vo,vcap,rfl,v1,v2,v3,v4,v5,v6⟩:=VS.one V1;rw [hv.out] at v5 v6;have vne:=vs_ne v4;have vne2:=vne.symm;have hb1:=H1.rows.base.2;have hsz1:w.heap.size+1 < w1.heap.size:=(by have:=K1.size;simp at this;omega);have c12:=H1.c12;have f12:=H1.fz 12 (by decide);have f6:=H1.fz 6 (by decide);have c6:=H1.c6;replace V1:=Lib.hid V1;replace F1:=Lib.hid F1;replace H1:=Lib.hid H1;replace K1:=Lib.hid (KB0.out.trans K1 (fun y hy=>.inl hy))) | (go_at_call 63;refine (mustF H1.out rfl).mono ?_;rintro e w2 ⟨rfl,rfl⟩) | (go_at_call 58;refine (NumW.rnarrow _ _).mono ?_;rintro e w2 ⟨rfl,rfl⟩))
  refine bodyPost_ret (v:=.agg #[.int .i64 1,.int .i64 (wrap32 v.n)]) (by simp [results,Tryz.results120,go_sem] <;> go_simp) rfl ?_
  obtain ⟨e1,e2⟩:=ended H1.out rfl 6 (Below.refl _ _)
  exact give_of (b:=w.heap.size+1) (by omega) (by first | omega | (simp;omega)) HH.out (rrm_stop e1 e2 rfl) (F1.out) z1.out zp.out hkx.out (K1.out) (by first | exact kp2 _ _ _ _ | exact kp2d _ _ _ _)
set_option maxRecDepth 100000 in
theorem giv10 (H:RH E w L h d Sv.run) (F:Fr E w L P m fr vs) (hl:fr.stk.length≤1000) (hn:fr.stk≠[]) (hn2:fr.stk.dropLast≠[]) (a b c n:Int) (va:Value) :
  Calls Tryz.prog 120 #[.pointer (some ⟨E.hb,0,none⟩),.pointer (some ⟨P.cb,0,none⟩),.agg #[.int .i64 10,.int .i64 a,.int .i64 b,.int .i64 c,.int .i64 n,va]] w (GiveR E L P m d w (if (top fr.stk).kind=2∧(top fr.stk.dropLast).kind=2 then .ok ⟨1,Num.cmp (top fr.stk.dropLast).n (top fr.stk).n⟩ h else .stop 6 h) ⟨fr.loc,fr.stk.dropLast.dropLast,fr.at_⟩):=by
 have hKX:∀ k,KX E L P k→k < w.heap.size:=fun k hk=>by
  rcases hk with hk | hk | hk
  ·exact (own_lo H.rows hk).2
  ·rw [hk];exact F.cbw
  ·rw [hk];exact F.lbw
 have HH:=Lib.hid H
 have hhb0:E.hb < w.heap.size:=H.rows.base.2
 have hhb1:E.hb < w.heap.size+1:=by omega
 obtain ⟨Z,hZ⟩:∃ Z:Nat→Prop,Hid (Z=fun k=>P.Z k∨k=w.heap.size∨k=w.heap.size+1):=⟨_,rfl⟩
 have HB0:Below w.heap.size w ((w.alloc (.cells #[.int .i64 10,.int .i64 a,.int .i64 b,.int .i64 c,.int .i64 n,va] 66)).alloc (.cells #[.int .i64 0,.int .i64 0] 72)):=by exact Rd.byB
 have H0:=Lib.hid (H.below HB0)
 have F0:=Lib.hid (F.zone HB0 Z (fun k hk=>by rw [hZ.out] at hk;rcases hk with q | q | q;exact .inl q;exact .inr (by omega);exact .inr (by omega)) (fun k hk=>by rw [hZ.out] at hk;rcases hk with q | q | q;exact Nat.lt_of_lt_of_le (F.zlt k q) HB0.size;(simp;omega);(simp;omega)))
 have nx0:¬ KX E L (P.zone Z) w.heap.size:=fun hk=>by have:=hKX _ hk;omega
 have nx1:¬ KX E L (P.zone Z) (w.heap.size+1):=fun hk=>by have:=hKX _ hk;omega
 have z1:Hid (Z (w.heap.size+1)):=by show Z _;rw [hZ.out];exact .inr (.inr rfl)
 have zp:Hid (∀ k,P.Z k→Z k):=fun k hk=>by rw [hZ.out];exact .inl hk
 have hkx:=Lib.hid hKX
 have KB0:=Lib.hid (kpB (X:=KX E L P) HB0)
 clear H F hZ HB0 hKX
 obtain ⟨x,hx⟩:∃ x,Hid (top fr.stk.dropLast=x):=⟨_,rfl⟩
 obtain ⟨y,hy⟩:∃ y,Hid (top fr.stk=y):=⟨_,rfl⟩
 rw [hx.out,hy.out]
 by_cases q1:x.kind=2
 ·have qb:(x.kind==2)=true:=by simpa using q1
  by_cases q2:y.kind=2
  ·have qb2:(y.kind==2)=true:=by simpa using q2
   rw [if_pos ⟨q2,q1⟩]
   clear q1 q2
   go_enter Tryz.func120,Tryz.ntmps120
   go_wp2_with (first | (go_at_call 64;refine (take2R H0.out F0.out hn hn2 hl).mono ?_;rintro e w1 ⟨vt,vs1,rfl,V1,F1,H1,K1⟩;have i0:=K1.cell (c:=w.heap.size) (o:=0) (v:=.int .i64 10) (by go_simp) nx0;have i1:=K1.cell (c:=w.heap.size) (o:=1) (v:=.int .i64 a) (by go_simp) nx0;have i2:=K1.cell (c:=w.heap.size) (o:=2) (v:=.int .i64 b) (by go_simp) nx0;have i4:=K1.cell (c:=w.heap.size) (o:=4) (v:=.int .i64 n) (by go_simp) nx0;have r0:=K1.cell (c:=w.heap.size+1) (o:=0) (v:=.int .i64 0) (by go_simp) nx1;have q0:=K1.frz (c:=w.heap.size+1) (o:=0) (b:=false) (by go_simp) (by simp) nx1;have r1:=K1.cell (c:=w.heap.size+1) (o:=1) (v:=.int .i64 0) (by go_simp) nx1;have q1:=K1.frz (c:=w.heap.size+1) (o:=1) (b:=false) (by go_simp) (by simp) nx1;obtain ⟨vb,vo,vcap,rfl,v1,v2,v3,v4,v5,v6,v7,v8⟩:=VS.two V1;rw [hx.out] at v5 v6;rw [hy.out] at v7 v8;have vne:=vs_ne v4;have vne2:=vne.symm;have hb1:=H1.rows.base.2;have hsz1:w.heap.size+1 < w1.heap.size:=(by have:=K1.size;simp at this;omega);have c12:=H1.c12;have f12:=H1.fz 12 (by decide);have f6:=H1.fz 6 (by decide);have c6:=H1.c6;replace V1:=Lib.hid V1;replace F1:=Lib.hid F1;replace H1:=Lib.hid H1;replace K1:=Lib.hid (KB0.out.trans K1 (fun y hy=>.inl hy))) | (go_at_call 63;refine (mustT H1.out rfl).mono ?_;rintro e w2 ⟨rfl,rfl⟩))
   go_still_tail 8,(by kernel_rfl)
   go_wp2_with (go_at_call 173;refine (NumW.rcmp _ _ _).mono ?_;rintro e w2 ⟨rfl,rfl⟩)
   refine bodyPost_ret (v:=.agg #[.int .i64 1,.int .i64 (Num.cmp x.n y.n)]) (by simp [results,Tryz.results120,go_sem] <;> go_simp) rfl ?_
   exact give_of (b:=w.heap.size+1) (by omega) (by first | omega | (simp;omega)) HH.out (rrm_ok H1.out rfl rfl rfl) (F1.out) z1.out zp.out hkx.out (K1.out) (by first | exact kp2 _ _ _ _ | exact kp2d _ _ _ _)
  ·have qb2:(y.kind==2)=false:=by simpa using q2
   rw [if_neg (fun e=>q2 e.1)]
   clear q1 q2
   go_enter Tryz.func120,Tryz.ntmps120
   go_wp2_with (first | (go_at_call 64;refine (take2R H0.out F0.out hn hn2 hl).mono ?_;rintro e w1 ⟨vt,vs1,rfl,V1,F1,H1,K1⟩;have i0:=K1.cell (c:=w.heap.size) (o:=0) (v:=.int .i64 10) (by go_simp) nx0;have i1:=K1.cell (c:=w.heap.size) (o:=1) (v:=.int .i64 a) (by go_simp) nx0;have i2:=K1.cell (c:=w.heap.size) (o:=2) (v:=.int .i64 b) (by go_simp) nx0;have i4:=K1.cell (c:=w.heap.size) (o:=4) (v:=.int .i64 n) (by go_simp) nx0;have r0:=K1.cell (c:=w.heap.size+1) (o:=0) (v:=.int .i64 0) (by go_simp) nx1;have q0:=K1.frz (c:=w.heap.size+1) (o:=0) (b:=false) (by go_simp) (by simp) nx1;have r1:=K1.cell (c:=w.heap.size+1) (o:=1) (v:=.int .i64 0) (by go_simp) nx1;have q1:=K1.frz (c:=w.heap.size+1) (o:=1) (b:=false) (by go_simp) (by simp) nx1;obtain ⟨vb,vo,vcap,rfl,v1,v2,v3,v4,v5,v6,v7,v8⟩:=VS.two V1;rw [hx.out] at v5 v6;rw [hy.out] at v7 v8;have vne:=vs_ne v4;have vne2:=vne.symm;have hb1:=H1.rows.base.2;have hsz1:w.heap.size+1 < w1.heap.size:=(by have:=K1.size;simp at this;omega);have c12:=H1.c12;have f12:=H1.fz 12 (by decide);have f6:=H1.fz 6 (by decide);have c6:=H1.c6;replace V1:=Lib.hid V1;replace F1:=Lib.hid F1;replace H1:=Lib.hid H1;replace K1:=Lib.hid (KB0.out.trans K1 (fun y hy=>.inl hy))) | (go_at_call 63;refine (mustF H1.out rfl).mono ?_;rintro e w2 ⟨rfl,hw⟩;obtain ⟨HE,KE⟩:RH E w2 L h d (Sv.ends 6)∧Kp (own E L) w1 w2:=(by rw [← hw];exact ended H1.out rfl 6 (Below.refl _ _));clear hw;have r0e:=KE.cell r0 (fun hk=>nx1 (.inl hk));have r1e:=KE.cell r1 (fun hk=>nx1 (.inl hk));have q0e:=KE.frz q0 hsz1 (fun hk=>nx1 (.inl hk));have q1e:=KE.frz q1 hsz1 (fun hk=>nx1 (.inl hk));have v5e:=KE.cell v5 (fun hk=>v4 (.inl (.inl hk)));have v6e:=KE.cell v6 (fun hk=>v4 (.inl (.inl hk)));have v7e:=KE.cell v7 (fun hk=>v4 (.inl (.inl hk)));have v8e:=KE.cell v8 (fun hk=>v4 (.inl (.inl hk)));replace HE:=Lib.hid HE;replace KE:=Lib.hid KE))
   go_still_tail 8,(by kernel_rfl)
   go_wp2_with (go_at_call 173;refine (NumW.rcmp _ _ _).mono ?_;rintro e w2 ⟨rfl,rfl⟩)
   refine bodyPost_ret (v:=.agg #[.int .i64 1,.int .i64 (Num.cmp x.n y.n)]) (by simp [results,Tryz.results120,go_sem] <;> go_simp) rfl ?_
   exact give_of (b:=w.heap.size+1) (by omega) (by first | omega | (simp;omega)) HH.out (rrm_stop HE.out KE.out rfl) (F1.out) z1.out zp.out hkx.out (K1.out) (by first | exact kp2 _ _ _ _ | exact kp2d _ _ _ _ | exact kpd2 _ _ _ _)
 ·have qb:(x.kind==2)=false:=by simpa using q1
  rw [if_neg (fun e=>q1 e.2)]
  clear q1
  go_enter Tryz.func120,Tryz.ntmps120
  go_wp2_with (first | (go_at_call 64;refine (take2R H0.out F0.out hn hn2 hl).mono ?_;rintro e w1 ⟨vt,vs1,rfl,V1,F1,H1,K1⟩;have i0:=K1.cell (c:=w.heap.size) (o:=0) (v:=.int .i64 10) (by go_simp) nx0;have i1:=K1.cell (c:=w.heap.size) (o:=1) (v:=.int .i64 a) (by go_simp) nx0;have i2:=K1.cell (c:=w.heap.size) (o:=2) (v:=.int .i64 b) (by go_simp) nx0;have i4:=K1.cell (c:=w.heap.size) (o:=4) (v:=.int .i64 n) (by go_simp) nx0;have r0:=K1.cell (c:=w.heap.size+1) (o:=0) (v:=.int .i64 0) (by go_simp) nx1;have q0:=K1.frz (c:=w.heap.size+1) (o:=0) (b:=false) (by go_simp) (by simp) nx1;have r1:=K1.cell (c:=w.heap.size+1) (o:=1) (v:=.int .i64 0) (by go_simp) nx1;have q1:=K1.frz (c:=w.heap.size+1) (o:=1) (b:=false) (by go_simp) (by simp) nx1;obtain ⟨vb,vo,vcap,rfl,v1,v2,v3,v4,v5,v6,v7,v8⟩:=VS.two V1;rw [hx.out] at v5 v6;rw [hy.out] at v7 v8;have vne:=vs_ne v4;have vne2:=vne.symm;have hb1:=H1.rows.base.2;have hsz1:w.heap.size+1 < w1.heap.size:=(by have:=K1.size;simp at this;omega);have c12:=H1.c12;have f12:=H1.fz 12 (by decide);have f6:=H1.fz 6 (by decide);have c6:=H1.c6;replace V1:=Lib.hid V1;replace F1:=Lib.hid F1;replace H1:=Lib.hid H1;replace K1:=Lib.hid (KB0.out.trans K1 (fun y hy=>.inl hy))) | (go_at_call 63;refine (mustF H1.out rfl).mono ?_;rintro e w2 ⟨rfl,hw⟩;obtain ⟨HE,KE⟩:RH E w2 L h d (Sv.ends 6)∧Kp (own E L) w1 w2:=(by rw [← hw];exact ended H1.out rfl 6 (Below.refl _ _));clear hw;have r0e:=KE.cell r0 (fun hk=>nx1 (.inl hk));have r1e:=KE.cell r1 (fun hk=>nx1 (.inl hk));have q0e:=KE.frz q0 hsz1 (fun hk=>nx1 (.inl hk));have q1e:=KE.frz q1 hsz1 (fun hk=>nx1 (.inl hk));have v5e:=KE.cell v5 (fun hk=>v4 (.inl (.inl hk)));have v6e:=KE.cell v6 (fun hk=>v4 (.inl (.inl hk)));have v7e:=KE.cell v7 (fun hk=>v4 (.inl (.inl hk)));have v8e:=KE.cell v8 (fun hk=>v4 (.inl (.inl hk)));replace HE:=Lib.hid HE;replace KE:=Lib.hid KE))
  go_still_tail 8,(by kernel_rfl)
  go_wp2_with (go_at_call 173;refine (NumW.rcmp _ _ _).mono ?_;rintro e w2 ⟨rfl,rfl⟩)
  refine bodyPost_ret (v:=.agg #[.int .i64 1,.int .i64 (Num.cmp x.n y.n)]) (by simp [results,Tryz.results120,go_sem] <;> go_simp) rfl ?_
  exact give_of (b:=w.heap.size+1) (by omega) (by first | omega | (simp;omega)) HH.out (rrm_stop HE.out KE.out rfl) (F1.out) z1.out zp.out hkx.out (K1.out) (by first | exact kp2 _ _ _ _ | exact kp2d _ _ _ _ | exact kpd2 _ _ _ _)
end
end Rhw
namespace Rhw
open Num Rd D Run Mem HierW Hpw
section
variable {E:Ev}{w w':World}{L L':RL}{h h':Hp}{d:Nat}{s:Sv}{P:Pl}{m:Me}{fr:Sf}{vs:Value}
set_option maxRecDepth 100000 in
theorem giv14 (H:RH E w L h d Sv.run) (F:Fr E w L P m fr vs) (hl:fr.stk.length≤1000) (hm:Hier.may E.f.classes=true) (HO:HpOk E.f.classes E.input E.fuel h) (a b c n:Int) (va:Value) :
  Calls Tryz.prog 120 #[.pointer (some ⟨E.hb,0,none⟩),.pointer (some ⟨P.cb,0,none⟩),.agg #[.int .i64 14,.int .i64 a,.int .i64 b,.int .i64 c,.int .i64 n,va]] w (GiveR E L P m d w (Run.new E.f.classes a h) fr):=by
 have hKX:∀ k,KX E L P k→k < w.heap.size:=fun k hk=>by
  rcases hk with hk | hk | hk
  ·exact (own_lo H.rows hk).2
  ·rw [hk];exact F.cbw
  ·rw [hk];exact F.lbw
 have HH:=Lib.hid H
 have hhb0:E.hb < w.heap.size:=H.rows.base.2
 have hhb1:E.hb < w.heap.size+1:=by omega
 obtain ⟨Z,hZ⟩:∃ Z:Nat→Prop,Hid (Z=fun k=>P.Z k∨k=w.heap.size∨k=w.heap.size+1):=⟨_,rfl⟩
 have HB0:Below w.heap.size w ((w.alloc (.cells #[.int .i64 14,.int .i64 a,.int .i64 b,.int .i64 c,.int .i64 n,va] 66)).alloc (.cells #[.int .i64 0,.int .i64 0] 72)):=by exact Rd.byB
 have H0:=Lib.hid (H.below HB0)
 have F0:=Lib.hid (F.zone HB0 Z (fun k hk=>by rw [hZ.out] at hk;rcases hk with q | q | q;exact .inl q;exact .inr (by omega);exact .inr (by omega)) (fun k hk=>by rw [hZ.out] at hk;rcases hk with q | q | q;exact Nat.lt_of_lt_of_le (F.zlt k q) HB0.size;(simp;omega);(simp;omega)))
 have nx0:¬ KX E L (P.zone Z) w.heap.size:=fun hk=>by have:=hKX _ hk;omega
 have nx1:¬ KX E L (P.zone Z) (w.heap.size+1):=fun hk=>by have:=hKX _ hk;omega
 have z1:Hid (Z (w.heap.size+1)):=by show Z _;rw [hZ.out];exact .inr (.inr rfl)
 have zp:Hid (∀ k,P.Z k→Z k):=fun k hk=>by rw [hZ.out];exact .inl hk
 have hkx:=Lib.hid hKX
 have KB0:=Lib.hid (kpB (X:=KX E L P) HB0)
 clear H F hZ HB0 hKX
 go_enter Tryz.func120,Tryz.ntmps120
 go_wp2_with (first | (go_at_call 64;refine (take0R H0.out F0.out hl).mono ?_;rintro e w1 ⟨vt,vs1,rfl,V1,F1,H1,K1⟩;have i0:=K1.cell (c:=w.heap.size) (o:=0) (v:=.int .i64 14) (by go_simp) nx0;have i1:=K1.cell (c:=w.heap.size) (o:=1) (v:=.int .i64 a) (by go_simp) nx0;have i2:=K1.cell (c:=w.heap.size) (o:=2) (v:=.int .i64 b) (by go_simp) nx0;have i4:=K1.cell (c:=w.heap.size) (o:=4) (v:=.int .i64 n) (by go_simp) nx0;have r0:=K1.cell (c:=w.heap.size+1) (o:=0) (v:=.int .i64 0) (by go_simp) nx1;have q0:=K1.frz (c:=w.heap.size+1) (o:=0) (b:=false) (by go_simp) (by simp) nx1;have r1:=K1.cell (c:=w.heap.size+1) (o:=1) (v:=.int .i64 0) (by go_simp) nx1;have q1:=K1.frz (c:=w.heap.size+1) (o:=1) (b:=false) (by go_simp) (by simp) nx1;have hb1:=H1.rows.base.2;have hsz1:w.heap.size+1 < w1.heap.size:=(by have:=K1.size;simp at this;omega);have c12:=H1.c12;have f12:=H1.fz 12 (by decide);have f6:=H1.fz 6 (by decide);have c6:=H1.c6;replace V1:=Lib.hid V1;replace F1:=Lib.hid F1;replace H1:=Lib.hid H1;replace K1:=Lib.hid (KB0.out.trans K1 (fun y hy=>.inl hy))) | (go_at_call 174;refine (newR H1.out hm a).mono ?_;rintro e w2 HR2;obtain ⟨rk,rn,rfl,R2⟩:=rrv_m HR2;clear HR2;have KK:=rrm_kp R2;have s0:=KK.cell r0 (fun hk=>nx1 (.inl hk));have s1:=KK.cell r1 (fun hk=>nx1 (.inl hk));have t0:=KK.frz q0 (by first | omega | (simp;omega)) (fun hk=>nx1 (.inl hk));have t1:=KK.frz q1 (by first | omega | (simp;omega)) (fun hk=>nx1 (.inl hk));replace R2:=Lib.hid R2;replace KK:=Lib.hid KK))
 refine bodyPost_ret (v:=.agg #[.int .i64 rk,.int .i64 rn]) (by simp [results,Tryz.results120,go_sem] <;> go_simp) rfl ?_
 exact give_of (b:=w.heap.size+1) (by omega) (by first | omega | (simp;omega)) HH.out (R2.out) (F1.out) z1.out zp.out hkx.out (K1.out) (by first | exact kp2 _ _ _ _ | exact kp2d _ _ _ _)
set_option maxRecDepth 100000 in
theorem giv25 (H:RH E w L h d Sv.run) (F:Fr E w L P m fr vs) (hl:fr.stk.length≤1000) (hm:Hier.may E.f.classes=true) (HO:HpOk E.f.classes E.input E.fuel h) (hin:E.input.length≤1000) (a b c n:Int) (va:Value) :
  Calls Tryz.prog 120 #[.pointer (some ⟨E.hb,0,none⟩),.pointer (some ⟨P.cb,0,none⟩),.agg #[.int .i64 25,.int .i64 a,.int .i64 b,.int .i64 c,.int .i64 n,va]] w (GiveR E L P m d w (Run.takeIn E.input h) fr):=by
 have hKX:∀ k,KX E L P k→k < w.heap.size:=fun k hk=>by
  rcases hk with hk | hk | hk
  ·exact (own_lo H.rows hk).2
  ·rw [hk];exact F.cbw
  ·rw [hk];exact F.lbw
 have HH:=Lib.hid H
 have hhb0:E.hb < w.heap.size:=H.rows.base.2
 have hhb1:E.hb < w.heap.size+1:=by omega
 obtain ⟨Z,hZ⟩:∃ Z:Nat→Prop,Hid (Z=fun k=>P.Z k∨k=w.heap.size∨k=w.heap.size+1):=⟨_,rfl⟩
 have HB0:Below w.heap.size w ((w.alloc (.cells #[.int .i64 25,.int .i64 a,.int .i64 b,.int .i64 c,.int .i64 n,va] 66)).alloc (.cells #[.int .i64 0,.int .i64 0] 72)):=by exact Rd.byB
 have H0:=Lib.hid (H.below HB0)
 have F0:=Lib.hid (F.zone HB0 Z (fun k hk=>by rw [hZ.out] at hk;rcases hk with q | q | q;exact .inl q;exact .inr (by omega);exact .inr (by omega)) (fun k hk=>by rw [hZ.out] at hk;rcases hk with q | q | q;exact Nat.lt_of_lt_of_le (F.zlt k q) HB0.size;(simp;omega);(simp;omega)))
 have nx0:¬ KX E L (P.zone Z) w.heap.size:=fun hk=>by have:=hKX _ hk;omega
 have nx1:¬ KX E L (P.zone Z) (w.heap.size+1):=fun hk=>by have:=hKX _ hk;omega
 have z1:Hid (Z (w.heap.size+1)):=by show Z _;rw [hZ.out];exact .inr (.inr rfl)
 have zp:Hid (∀ k,P.Z k→Z k):=fun k hk=>by rw [hZ.out];exact .inl hk
 have hkx:=Lib.hid hKX
 have KB0:=Lib.hid (kpB (X:=KX E L P) HB0)
 clear H F hZ HB0 hKX
 go_enter Tryz.func120,Tryz.ntmps120
 go_wp2_with (first | (go_at_call 64;refine (take0R H0.out F0.out hl).mono ?_;rintro e w1 ⟨vt,vs1,rfl,V1,F1,H1,K1⟩;have i0:=K1.cell (c:=w.heap.size) (o:=0) (v:=.int .i64 25) (by go_simp) nx0;have i1:=K1.cell (c:=w.heap.size) (o:=1) (v:=.int .i64 a) (by go_simp) nx0;have i2:=K1.cell (c:=w.heap.size) (o:=2) (v:=.int .i64 b) (by go_simp) nx0;have i4:=K1.cell (c:=w.heap.size) (o:=4) (v:=.int .i64 n) (by go_simp) nx0;have r0:=K1.cell (c:=w.heap.size+1) (o:=0) (v:=.int .i64 0) (by go_simp) nx1;have q0:=K1.frz (c:=w.heap.size+1) (o:=0) (b:=false) (by go_simp) (by simp) nx1;have r1:=K1.cell (c:=w.heap.size+1) (o:=1) (v:=.int .i64 0) (by go_simp) nx1;have q1:=K1.frz (c:=w.heap.size+1) (o:=1) (b:=false) (by go_simp) (by simp) nx1;have hb1:=H1.rows.base.2;have hsz1:w.heap.size+1 < w1.heap.size:=(by have:=K1.size;simp at this;omega);have c12:=H1.c12;have f12:=H1.fz 12 (by decide);have f6:=H1.fz 6 (by decide);have c6:=H1.c6;replace V1:=Lib.hid V1;replace F1:=Lib.hid F1;replace H1:=Lib.hid H1;replace K1:=Lib.hid (KB0.out.trans K1 (fun y hy=>.inl hy))) | (go_at_call 177;refine (inR H1.out hin).mono ?_;rintro e w2 HR2;obtain ⟨rk,rn,rfl,R2⟩:=rrv_m HR2;clear HR2;have KK:=rrm_kp R2;have s0:=KK.cell r0 (fun hk=>nx1 (.inl hk));have s1:=KK.cell r1 (fun hk=>nx1 (.inl hk));have t0:=KK.frz q0 (by first | omega | (simp;omega)) (fun hk=>nx1 (.inl hk));have t1:=KK.frz q1 (by first | omega | (simp;omega)) (fun hk=>nx1 (.inl hk));replace R2:=Lib.hid R2;replace KK:=Lib.hid KK))
 refine bodyPost_ret (v:=.agg #[.int .i64 rk,.int .i64 rn]) (by simp [results,Tryz.results120,go_sem] <;> go_simp) rfl ?_
 exact give_of (b:=w.heap.size+1) (by omega) (by first | omega | (simp;omega)) HH.out (R2.out) (F1.out) z1.out zp.out hkx.out (K1.out) (by first | exact kp2 _ _ _ _ | exact kp2d _ _ _ _)
set_option maxRecDepth 100000 in
theorem giv6 (H:RH E w L h d Sv.run) (F:Fr E w L P m fr vs) (hl:fr.stk.length≤1000) (hm:Hier.may E.f.classes=true) (HO:HpOk E.f.classes E.input E.fuel h) (hok:∀ v∈fr.stk,VlOk h.objs.length v) (hn:fr.stk≠[]) (hn2:fr.stk.dropLast≠[]) (a b c n:Int) (va:Value) :
  Calls Tryz.prog 120 #[.pointer (some ⟨E.hb,0,none⟩),.pointer (some ⟨P.cb,0,none⟩),.agg #[.int .i64 6,.int .i64 a,.int .i64 b,.int .i64 c,.int .i64 n,va]] w (GiveR E L P m d w (Run.reckon E.f.classes (top fr.stk.dropLast) (top fr.stk) 1 a h) ⟨fr.loc,fr.stk.dropLast.dropLast,fr.at_⟩):=by
 have hKX:∀ k,KX E L P k→k < w.heap.size:=fun k hk=>by
  rcases hk with hk | hk | hk
  ·exact (own_lo H.rows hk).2
  ·rw [hk];exact F.cbw
  ·rw [hk];exact F.lbw
 have HH:=Lib.hid H
 have hhb0:E.hb < w.heap.size:=H.rows.base.2
 have hhb1:E.hb < w.heap.size+1:=by omega
 obtain ⟨Z,hZ⟩:∃ Z:Nat→Prop,Hid (Z=fun k=>P.Z k∨k=w.heap.size∨k=w.heap.size+1):=⟨_,rfl⟩
 have HB0:Below w.heap.size w ((w.alloc (.cells #[.int .i64 6,.int .i64 a,.int .i64 b,.int .i64 c,.int .i64 n,va] 66)).alloc (.cells #[.int .i64 0,.int .i64 0] 72)):=by exact Rd.byB
 have H0:=Lib.hid (H.below HB0)
 have F0:=Lib.hid (F.zone HB0 Z (fun k hk=>by rw [hZ.out] at hk;rcases hk with q | q | q;exact .inl q;exact .inr (by omega);exact .inr (by omega)) (fun k hk=>by rw [hZ.out] at hk;rcases hk with q | q | q;exact Nat.lt_of_lt_of_le (F.zlt k q) HB0.size;(simp;omega);(simp;omega)))
 have nx0:¬ KX E L (P.zone Z) w.heap.size:=fun hk=>by have:=hKX _ hk;omega
 have nx1:¬ KX E L (P.zone Z) (w.heap.size+1):=fun hk=>by have:=hKX _ hk;omega
 have z1:Hid (Z (w.heap.size+1)):=by show Z _;rw [hZ.out];exact .inr (.inr rfl)
 have zp:Hid (∀ k,P.Z k→Z k):=fun k hk=>by rw [hZ.out];exact .inl hk
 have hkx:=Lib.hid hKX
 have KB0:=Lib.hid (kpB (X:=KX E L P) HB0)
 clear H F hZ HB0 hKX
 obtain ⟨x,hx⟩:∃ x,Hid (top fr.stk.dropLast=x):=⟨_,rfl⟩
 obtain ⟨y,hy⟩:∃ y,Hid (top fr.stk=y):=⟨_,rfl⟩
 have okx:Ok x.n:=by rw [← hx.out];exact (hok _ (List.dropLast_subset _ (top_mem hn2))).1
 have oky:Ok y.n:=by rw [← hy.out];exact (hok _ (top_mem hn)).1
 rw [hx.out,hy.out]
 replace okx:=Lib.hid okx
 replace oky:=Lib.hid oky
 clear hok
 go_enter Tryz.func120,Tryz.ntmps120
 go_wp2_with (go_at_call 64;refine (take2R H0.out F0.out hn hn2 hl).mono ?_;rintro e w1 ⟨vt,vs1,rfl,V1,F1,H1,K1⟩;have i0:=K1.cell (c:=w.heap.size) (o:=0) (v:=.int .i64 6) (by go_simp) nx0;have i1:=K1.cell (c:=w.heap.size) (o:=1) (v:=.int .i64 a) (by go_simp) nx0;have i2:=K1.cell (c:=w.heap.size) (o:=2) (v:=.int .i64 b) (by go_simp) nx0;have i4:=K1.cell (c:=w.heap.size) (o:=4) (v:=.int .i64 n) (by go_simp) nx0;have r0:=K1.cell (c:=w.heap.size+1) (o:=0) (v:=.int .i64 0) (by go_simp) nx1;have q0:=K1.frz (c:=w.heap.size+1) (o:=0) (b:=false) (by go_simp) (by simp) nx1;have r1:=K1.cell (c:=w.heap.size+1) (o:=1) (v:=.int .i64 0) (by go_simp) nx1;have q1:=K1.frz (c:=w.heap.size+1) (o:=1) (b:=false) (by go_simp) (by simp) nx1;obtain ⟨vb,vo,vcap,rfl,v1,v2,v3,v4,v5,v6,v7,v8⟩:=VS.two V1;rw [hx.out] at v5 v6;rw [hy.out] at v7 v8;have vne:=vs_ne v4;have vne2:=vne.symm;have hb1:=H1.rows.base.2;have hsz1:w.heap.size+1 < w1.heap.size:=(by have:=K1.size;simp at this;omega);have c12:=H1.c12;have f12:=H1.fz 12 (by decide);have f6:=H1.fz 6 (by decide);have c6:=H1.c6;replace V1:=Lib.hid V1;replace F1:=Lib.hid F1;replace H1:=Lib.hid H1;replace K1:=Lib.hid (KB0.out.trans K1 (fun y hy=>.inl hy)))
 go_still_tail 9,(by kernel_rfl)
 go_wp2_with (go_at_call 172;refine (reckonR (H1.out.below (w':=w1.drew) (by exact Rd.byB)) hm x y okx.out oky.out 1 a (by decide)).mono ?_;rintro e w2 HR2;obtain ⟨rk,rn,rfl,R2⟩:=rrv_m HR2;clear HR2;have KK:=rrm_kp R2;have s0:=KK.cell r0 (fun hk=>nx1 (.inl hk));have s1:=KK.cell r1 (fun hk=>nx1 (.inl hk));have t0:=KK.frz q0 (by first | omega | (simp;omega)) (fun hk=>nx1 (.inl hk));have t1:=KK.frz q1 (by first | omega | (simp;omega)) (fun hk=>nx1 (.inl hk));replace R2:=Lib.hid R2;replace KK:=Lib.hid KK)
 refine bodyPost_ret (v:=.agg #[.int .i64 rk,.int .i64 rn]) (by simp [results,Tryz.results120,go_sem] <;> go_simp) rfl ?_
 exact give_of (b:=w.heap.size+1) (by omega) (by first | omega | (simp;omega)) HH.out (R2.out) (F1.out.below (by exact Rd.byB)) z1.out zp.out hkx.out (kb K1.out (by exact Rd.byB)) (by first | exact kp2 _ _ _ _ | exact kp2d _ _ _ _)
set_option maxRecDepth 100000 in
theorem giv7 (H:RH E w L h d Sv.run) (F:Fr E w L P m fr vs) (hl:fr.stk.length≤1000) (hm:Hier.may E.f.classes=true) (HO:HpOk E.f.classes E.input E.fuel h) (hok:∀ v∈fr.stk,VlOk h.objs.length v) (hn:fr.stk≠[]) (hn2:fr.stk.dropLast≠[]) (a b c n:Int) (va:Value) :
  Calls Tryz.prog 120 #[.pointer (some ⟨E.hb,0,none⟩),.pointer (some ⟨P.cb,0,none⟩),.agg #[.int .i64 7,.int .i64 a,.int .i64 b,.int .i64 c,.int .i64 n,va]] w (GiveR E L P m d w (Run.reckon E.f.classes (top fr.stk.dropLast) (top fr.stk) 2 a h) ⟨fr.loc,fr.stk.dropLast.dropLast,fr.at_⟩):=by
 have hKX:∀ k,KX E L P k→k < w.heap.size:=fun k hk=>by
  rcases hk with hk | hk | hk
  ·exact (own_lo H.rows hk).2
  ·rw [hk];exact F.cbw
  ·rw [hk];exact F.lbw
 have HH:=Lib.hid H
 have hhb0:E.hb < w.heap.size:=H.rows.base.2
 have hhb1:E.hb < w.heap.size+1:=by omega
 obtain ⟨Z,hZ⟩:∃ Z:Nat→Prop,Hid (Z=fun k=>P.Z k∨k=w.heap.size∨k=w.heap.size+1):=⟨_,rfl⟩
 have HB0:Below w.heap.size w ((w.alloc (.cells #[.int .i64 7,.int .i64 a,.int .i64 b,.int .i64 c,.int .i64 n,va] 66)).alloc (.cells #[.int .i64 0,.int .i64 0] 72)):=by exact Rd.byB
 have H0:=Lib.hid (H.below HB0)
 have F0:=Lib.hid (F.zone HB0 Z (fun k hk=>by rw [hZ.out] at hk;rcases hk with q | q | q;exact .inl q;exact .inr (by omega);exact .inr (by omega)) (fun k hk=>by rw [hZ.out] at hk;rcases hk with q | q | q;exact Nat.lt_of_lt_of_le (F.zlt k q) HB0.size;(simp;omega);(simp;omega)))
 have nx0:¬ KX E L (P.zone Z) w.heap.size:=fun hk=>by have:=hKX _ hk;omega
 have nx1:¬ KX E L (P.zone Z) (w.heap.size+1):=fun hk=>by have:=hKX _ hk;omega
 have z1:Hid (Z (w.heap.size+1)):=by show Z _;rw [hZ.out];exact .inr (.inr rfl)
 have zp:Hid (∀ k,P.Z k→Z k):=fun k hk=>by rw [hZ.out];exact .inl hk
 have hkx:=Lib.hid hKX
 have KB0:=Lib.hid (kpB (X:=KX E L P) HB0)
 clear H F hZ HB0 hKX
 obtain ⟨x,hx⟩:∃ x,Hid (top fr.stk.dropLast=x):=⟨_,rfl⟩
 obtain ⟨y,hy⟩:∃ y,Hid (top fr.stk=y):=⟨_,rfl⟩
 have okx:Ok x.n:=by rw [← hx.out];exact (hok _ (List.dropLast_subset _ (top_mem hn2))).1
 have oky:Ok y.n:=by rw [← hy.out];exact (hok _ (top_mem hn)).1
 rw [hx.out,hy.out]
 replace okx:=Lib.hid okx
 replace oky:=Lib.hid oky
 clear hok
 go_enter Tryz.func120,Tryz.ntmps120
 go_wp2_with (go_at_call 64;refine (take2R H0.out F0.out hn hn2 hl).mono ?_;rintro e w1 ⟨vt,vs1,rfl,V1,F1,H1,K1⟩;have i0:=K1.cell (c:=w.heap.size) (o:=0) (v:=.int .i64 7) (by go_simp) nx0;have i1:=K1.cell (c:=w.heap.size) (o:=1) (v:=.int .i64 a) (by go_simp) nx0;have i2:=K1.cell (c:=w.heap.size) (o:=2) (v:=.int .i64 b) (by go_simp) nx0;have i4:=K1.cell (c:=w.heap.size) (o:=4) (v:=.int .i64 n) (by go_simp) nx0;have r0:=K1.cell (c:=w.heap.size+1) (o:=0) (v:=.int .i64 0) (by go_simp) nx1;have q0:=K1.frz (c:=w.heap.size+1) (o:=0) (b:=false) (by go_simp) (by simp) nx1;have r1:=K1.cell (c:=w.heap.size+1) (o:=1) (v:=.int .i64 0) (by go_simp) nx1;have q1:=K1.frz (c:=w.heap.size+1) (o:=1) (b:=false) (by go_simp) (by simp) nx1;obtain ⟨vb,vo,vcap,rfl,v1,v2,v3,v4,v5,v6,v7,v8⟩:=VS.two V1;rw [hx.out] at v5 v6;rw [hy.out] at v7 v8;have vne:=vs_ne v4;have vne2:=vne.symm;have hb1:=H1.rows.base.2;have hsz1:w.heap.size+1 < w1.heap.size:=(by have:=K1.size;simp at this;omega);have c12:=H1.c12;have f12:=H1.fz 12 (by decide);have f6:=H1.fz 6 (by decide);have c6:=H1.c6;replace V1:=Lib.hid V1;replace F1:=Lib.hid F1;replace H1:=Lib.hid H1;replace K1:=Lib.hid (KB0.out.trans K1 (fun y hy=>.inl hy)))
 go_still_tail 9,(by kernel_rfl)
 go_wp2_with (go_at_call 172;refine (reckonR (H1.out.below (w':=w1.drew) (by exact Rd.byB)) hm x y okx.out oky.out 2 a (by decide)).mono ?_;rintro e w2 HR2;obtain ⟨rk,rn,rfl,R2⟩:=rrv_m HR2;clear HR2;have KK:=rrm_kp R2;have s0:=KK.cell r0 (fun hk=>nx1 (.inl hk));have s1:=KK.cell r1 (fun hk=>nx1 (.inl hk));have t0:=KK.frz q0 (by first | omega | (simp;omega)) (fun hk=>nx1 (.inl hk));have t1:=KK.frz q1 (by first | omega | (simp;omega)) (fun hk=>nx1 (.inl hk));replace R2:=Lib.hid R2;replace KK:=Lib.hid KK)
 refine bodyPost_ret (v:=.agg #[.int .i64 rk,.int .i64 rn]) (by simp [results,Tryz.results120,go_sem] <;> go_simp) rfl ?_
 exact give_of (b:=w.heap.size+1) (by omega) (by first | omega | (simp;omega)) HH.out (R2.out) (F1.out.below (by exact Rd.byB)) z1.out zp.out hkx.out (kb K1.out (by exact Rd.byB)) (by first | exact kp2 _ _ _ _ | exact kp2d _ _ _ _)
end
end Rhw
namespace Rhw
open Num Rd D Run Mem HierW Hpw
section
variable {E:Ev}{w w':World}{L L':RL}{h h':Hp}{d:Nat}{s:Sv}{P:Pl}{m:Me}{fr:Sf}{vs:Value}
set_option maxRecDepth 100000 in
theorem giv15 (H:RH E w L h d Sv.run) (F:Fr E w L P m fr vs) (hl:fr.stk.length≤1000) (hm:Hier.may E.f.classes=true) (HO:HpOk E.f.classes E.input E.fuel h) (hok:∀ v∈fr.stk,VlOk h.objs.length v) (hn:fr.stk≠[]) (a b c n:Int) (va:Value) :
  Calls Tryz.prog 120 #[.pointer (some ⟨E.hb,0,none⟩),.pointer (some ⟨P.cb,0,none⟩),.agg #[.int .i64 15,.int .i64 a,.int .i64 b,.int .i64 c,.int .i64 n,va]] w (GiveR E L P m d w (Run.get E.f.classes (top fr.stk) a b h) ⟨fr.loc,fr.stk.dropLast,fr.at_⟩):=by
 have hKX:∀ k,KX E L P k→k < w.heap.size:=fun k hk=>by
  rcases hk with hk | hk | hk
  ·exact (own_lo H.rows hk).2
  ·rw [hk];exact F.cbw
  ·rw [hk];exact F.lbw
 have HH:=Lib.hid H
 have hhb0:E.hb < w.heap.size:=H.rows.base.2
 have hhb1:E.hb < w.heap.size+1:=by omega
 obtain ⟨Z,hZ⟩:∃ Z:Nat→Prop,Hid (Z=fun k=>P.Z k∨k=w.heap.size∨k=w.heap.size+1):=⟨_,rfl⟩
 have HB0:Below w.heap.size w ((w.alloc (.cells #[.int .i64 15,.int .i64 a,.int .i64 b,.int .i64 c,.int .i64 n,va] 66)).alloc (.cells #[.int .i64 0,.int .i64 0] 72)):=by exact Rd.byB
 have H0:=Lib.hid (H.below HB0)
 have F0:=Lib.hid (F.zone HB0 Z (fun k hk=>by rw [hZ.out] at hk;rcases hk with q | q | q;exact .inl q;exact .inr (by omega);exact .inr (by omega)) (fun k hk=>by rw [hZ.out] at hk;rcases hk with q | q | q;exact Nat.lt_of_lt_of_le (F.zlt k q) HB0.size;(simp;omega);(simp;omega)))
 have nx0:¬ KX E L (P.zone Z) w.heap.size:=fun hk=>by have:=hKX _ hk;omega
 have nx1:¬ KX E L (P.zone Z) (w.heap.size+1):=fun hk=>by have:=hKX _ hk;omega
 have z1:Hid (Z (w.heap.size+1)):=by show Z _;rw [hZ.out];exact .inr (.inr rfl)
 have zp:Hid (∀ k,P.Z k→Z k):=fun k hk=>by rw [hZ.out];exact .inl hk
 have hkx:=Lib.hid hKX
 have KB0:=Lib.hid (kpB (X:=KX E L P) HB0)
 clear H F hZ HB0 hKX
 obtain ⟨y,hy⟩:∃ y,Hid (top fr.stk=y):=⟨_,rfl⟩
 have oky:VlOk h.objs.length y:=by rw [← hy.out];exact hok _ (top_mem hn)
 rw [hy.out]
 replace oky:=Lib.hid oky
 clear hok
 go_enter Tryz.func120,Tryz.ntmps120
 go_wp2_with (go_at_call 64;refine (take1R H0.out F0.out hn hl).mono ?_;rintro e w1 ⟨vt,vs1,rfl,V1,F1,H1,K1⟩;have i0:=K1.cell (c:=w.heap.size) (o:=0) (v:=.int .i64 15) (by go_simp) nx0;have i1:=K1.cell (c:=w.heap.size) (o:=1) (v:=.int .i64 a) (by go_simp) nx0;have i2:=K1.cell (c:=w.heap.size) (o:=2) (v:=.int .i64 b) (by go_simp) nx0;have i4:=K1.cell (c:=w.heap.size) (o:=4) (v:=.int .i64 n) (by go_simp) nx0;have r0:=K1.cell (c:=w.heap.size+1) (o:=0) (v:=.int .i64 0) (by go_simp) nx1;have q0:=K1.frz (c:=w.heap.size+1) (o:=0) (b:=false) (by go_simp) (by simp) nx1;have r1:=K1.cell (c:=w.heap.size+1) (o:=1) (v:=.int .i64 0) (by go_simp) nx1;have q1:=K1.frz (c:=w.heap.size+1) (o:=1) (b:=false) (by go_simp) (by simp) nx1;obtain ⟨vb,vo,vcap,rfl,v1,v2,v3,v4,v5,v6⟩:=VS.one V1;rw [hy.out] at v5 v6;have vne:=vs_ne v4;have vne2:=vne.symm;have hb1:=H1.rows.base.2;have hsz1:w.heap.size+1 < w1.heap.size:=(by have:=K1.size;simp at this;omega);have c12:=H1.c12;have f12:=H1.fz 12 (by decide);have f6:=H1.fz 6 (by decide);have c6:=H1.c6;replace V1:=Lib.hid V1;replace F1:=Lib.hid F1;replace H1:=Lib.hid H1;replace K1:=Lib.hid (KB0.out.trans K1 (fun y hy=>.inl hy)))
 go_still_tail 8,(by kernel_rfl)
 go_wp2_with (go_at_call 175;refine (getR (H1.out.below (w':=w1.drew) (by exact Rd.byB)) hm HO y oky.out a b).mono ?_;rintro e w2 HR2;obtain ⟨rk,rn,rfl,R2⟩:=rrv_m HR2;clear HR2;have KK:=rrm_kp R2;have s0:=KK.cell r0 (fun hk=>nx1 (.inl hk));have s1:=KK.cell r1 (fun hk=>nx1 (.inl hk));have t0:=KK.frz q0 (by first | omega | (simp;omega)) (fun hk=>nx1 (.inl hk));have t1:=KK.frz q1 (by first | omega | (simp;omega)) (fun hk=>nx1 (.inl hk));replace R2:=Lib.hid R2;replace KK:=Lib.hid KK)
 refine bodyPost_ret (v:=.agg #[.int .i64 rk,.int .i64 rn]) (by simp [results,Tryz.results120,go_sem] <;> go_simp) rfl ?_
 exact give_of (b:=w.heap.size+1) (by omega) (by first | omega | (simp;omega)) HH.out (R2.out) (F1.out.below (by exact Rd.byB)) z1.out zp.out hkx.out (kb K1.out (by exact Rd.byB)) (by first | exact kp2 _ _ _ _ | exact kp2d _ _ _ _)
set_option maxRecDepth 100000 in
theorem giv18 (H:RH E w L h d Sv.run) (F:Fr E w L P m fr vs) (hl:fr.stk.length≤1000) (hm:Hier.may E.f.classes=true) (HO:HpOk E.f.classes E.input E.fuel h) (hok:∀ v∈fr.stk,VlOk h.objs.length v) (hn:fr.stk≠[]) (a b c n:Int) (va:Value) :
  Calls Tryz.prog 120 #[.pointer (some ⟨E.hb,0,none⟩),.pointer (some ⟨P.cb,0,none⟩),.agg #[.int .i64 18,.int .i64 a,.int .i64 b,.int .i64 c,.int .i64 n,va]] w (GiveR E L P m d w (Run.isV E.f.classes (top fr.stk) a h) ⟨fr.loc,fr.stk.dropLast,fr.at_⟩):=by
 have hKX:∀ k,KX E L P k→k < w.heap.size:=fun k hk=>by
  rcases hk with hk | hk | hk
  ·exact (own_lo H.rows hk).2
  ·rw [hk];exact F.cbw
  ·rw [hk];exact F.lbw
 have HH:=Lib.hid H
 have hhb0:E.hb < w.heap.size:=H.rows.base.2
 have hhb1:E.hb < w.heap.size+1:=by omega
 obtain ⟨Z,hZ⟩:∃ Z:Nat→Prop,Hid (Z=fun k=>P.Z k∨k=w.heap.size∨k=w.heap.size+1):=⟨_,rfl⟩
 have HB0:Below w.heap.size w ((w.alloc (.cells #[.int .i64 18,.int .i64 a,.int .i64 b,.int .i64 c,.int .i64 n,va] 66)).alloc (.cells #[.int .i64 0,.int .i64 0] 72)):=by exact Rd.byB
 have H0:=Lib.hid (H.below HB0)
 have F0:=Lib.hid (F.zone HB0 Z (fun k hk=>by rw [hZ.out] at hk;rcases hk with q | q | q;exact .inl q;exact .inr (by omega);exact .inr (by omega)) (fun k hk=>by rw [hZ.out] at hk;rcases hk with q | q | q;exact Nat.lt_of_lt_of_le (F.zlt k q) HB0.size;(simp;omega);(simp;omega)))
 have nx0:¬ KX E L (P.zone Z) w.heap.size:=fun hk=>by have:=hKX _ hk;omega
 have nx1:¬ KX E L (P.zone Z) (w.heap.size+1):=fun hk=>by have:=hKX _ hk;omega
 have z1:Hid (Z (w.heap.size+1)):=by show Z _;rw [hZ.out];exact .inr (.inr rfl)
 have zp:Hid (∀ k,P.Z k→Z k):=fun k hk=>by rw [hZ.out];exact .inl hk
 have hkx:=Lib.hid hKX
 have KB0:=Lib.hid (kpB (X:=KX E L P) HB0)
 clear H F hZ HB0 hKX
 obtain ⟨y,hy⟩:∃ y,Hid (top fr.stk=y):=⟨_,rfl⟩
 have oky:VlOk h.objs.length y:=by rw [← hy.out];exact hok _ (top_mem hn)
 rw [hy.out]
 replace oky:=Lib.hid oky
 clear hok
 go_enter Tryz.func120,Tryz.ntmps120
 go_wp2_with (go_at_call 64;refine (take1R H0.out F0.out hn hl).mono ?_;rintro e w1 ⟨vt,vs1,rfl,V1,F1,H1,K1⟩;have i0:=K1.cell (c:=w.heap.size) (o:=0) (v:=.int .i64 18) (by go_simp) nx0;have i1:=K1.cell (c:=w.heap.size) (o:=1) (v:=.int .i64 a) (by go_simp) nx0;have i2:=K1.cell (c:=w.heap.size) (o:=2) (v:=.int .i64 b) (by go_simp) nx0;have i4:=K1.cell (c:=w.heap.size) (o:=4) (v:=.int .i64 n) (by go_simp) nx0;have r0:=K1.cell (c:=w.heap.size+1) (o:=0) (v:=.int .i64 0) (by go_simp) nx1;have q0:=K1.frz (c:=w.heap.size+1) (o:=0) (b:=false) (by go_simp) (by simp) nx1;have r1:=K1.cell (c:=w.heap.size+1) (o:=1) (v:=.int .i64 0) (by go_simp) nx1;have q1:=K1.frz (c:=w.heap.size+1) (o:=1) (b:=false) (by go_simp) (by simp) nx1;obtain ⟨vb,vo,vcap,rfl,v1,v2,v3,v4,v5,v6⟩:=VS.one V1;rw [hy.out] at v5 v6;have vne:=vs_ne v4;have vne2:=vne.symm;have hb1:=H1.rows.base.2;have hsz1:w.heap.size+1 < w1.heap.size:=(by have:=K1.size;simp at this;omega);have c12:=H1.c12;have f12:=H1.fz 12 (by decide);have f6:=H1.fz 6 (by decide);have c6:=H1.c6;replace V1:=Lib.hid V1;replace F1:=Lib.hid F1;replace H1:=Lib.hid H1;replace K1:=Lib.hid (KB0.out.trans K1 (fun y hy=>.inl hy)))
 go_still_tail 6,(by kernel_rfl)
 go_wp2_with (go_at_call 176;refine (isR (H1.out.below (w':=w1.drew) (by exact Rd.byB)) hm y oky.out a).mono ?_;rintro e w2 HR2;obtain ⟨rk,rn,rfl,R2⟩:=rrv_m HR2;clear HR2;have KK:=rrm_kp R2;have s0:=KK.cell r0 (fun hk=>nx1 (.inl hk));have s1:=KK.cell r1 (fun hk=>nx1 (.inl hk));have t0:=KK.frz q0 (by first | omega | (simp;omega)) (fun hk=>nx1 (.inl hk));have t1:=KK.frz q1 (by first | omega | (simp;omega)) (fun hk=>nx1 (.inl hk));replace R2:=Lib.hid R2;replace KK:=Lib.hid KK)
 refine bodyPost_ret (v:=.agg #[.int .i64 rk,.int .i64 rn]) (by simp [results,Tryz.results120,go_sem] <;> go_simp) rfl ?_
 exact give_of (b:=w.heap.size+1) (by omega) (by first | omega | (simp;omega)) HH.out (R2.out) (F1.out.below (by exact Rd.byB)) z1.out zp.out hkx.out (kb K1.out (by exact Rd.byB)) (by first | exact kp2 _ _ _ _ | exact kp2d _ _ _ _)
set_option maxRecDepth 100000 in
theorem giv17 (H:RH E w L h d Sv.run) (F:Fr E w L P m fr vs) (hl:fr.stk.length≤1000) (hm:Hier.may E.f.classes=true) (HO:HpOk E.f.classes E.input E.fuel h) (hok:∀ v∈fr.stk,VlOk h.objs.length v) (hn:fr.stk≠[]) (a b c n:Int) (va:Value) :
  Calls Tryz.prog 120 #[.pointer (some ⟨E.hb,0,none⟩),.pointer (some ⟨P.cb,0,none⟩),.agg #[.int .i64 17,.int .i64 a,.int .i64 b,.int .i64 c,.int .i64 n,va]] w (GiveR E L P m d w ((Run.cast E.f.classes (top fr.stk) a h).bind fun _ h=>.ok (top fr.stk) h) ⟨fr.loc,fr.stk.dropLast,fr.at_⟩):=by
 have hKX:∀ k,KX E L P k→k < w.heap.size:=fun k hk=>by
  rcases hk with hk | hk | hk
  ·exact (own_lo H.rows hk).2
  ·rw [hk];exact F.cbw
  ·rw [hk];exact F.lbw
 have HH:=Lib.hid H
 have hhb0:E.hb < w.heap.size:=H.rows.base.2
 have hhb1:E.hb < w.heap.size+1:=by omega
 obtain ⟨Z,hZ⟩:∃ Z:Nat→Prop,Hid (Z=fun k=>P.Z k∨k=w.heap.size∨k=w.heap.size+1):=⟨_,rfl⟩
 have HB0:Below w.heap.size w ((w.alloc (.cells #[.int .i64 17,.int .i64 a,.int .i64 b,.int .i64 c,.int .i64 n,va] 66)).alloc (.cells #[.int .i64 0,.int .i64 0] 72)):=by exact Rd.byB
 have H0:=Lib.hid (H.below HB0)
 have F0:=Lib.hid (F.zone HB0 Z (fun k hk=>by rw [hZ.out] at hk;rcases hk with q | q | q;exact .inl q;exact .inr (by omega);exact .inr (by omega)) (fun k hk=>by rw [hZ.out] at hk;rcases hk with q | q | q;exact Nat.lt_of_lt_of_le (F.zlt k q) HB0.size;(simp;omega);(simp;omega)))
 have nx0:¬ KX E L (P.zone Z) w.heap.size:=fun hk=>by have:=hKX _ hk;omega
 have nx1:¬ KX E L (P.zone Z) (w.heap.size+1):=fun hk=>by have:=hKX _ hk;omega
 have z1:Hid (Z (w.heap.size+1)):=by show Z _;rw [hZ.out];exact .inr (.inr rfl)
 have zp:Hid (∀ k,P.Z k→Z k):=fun k hk=>by rw [hZ.out];exact .inl hk
 have hkx:=Lib.hid hKX
 have KB0:=Lib.hid (kpB (X:=KX E L P) HB0)
 clear H F hZ HB0 hKX
 obtain ⟨y,hy⟩:∃ y,Hid (top fr.stk=y):=⟨_,rfl⟩
 have oky:VlOk h.objs.length y:=by rw [← hy.out];exact hok _ (top_mem hn)
 rw [hy.out]
 replace oky:=Lib.hid oky
 clear hok
 go_enter Tryz.func120,Tryz.ntmps120
 go_wp2_with (go_at_call 64;refine (take1R H0.out F0.out hn hl).mono ?_;rintro e w1 ⟨vt,vs1,rfl,V1,F1,H1,K1⟩;have i0:=K1.cell (c:=w.heap.size) (o:=0) (v:=.int .i64 17) (by go_simp) nx0;have i1:=K1.cell (c:=w.heap.size) (o:=1) (v:=.int .i64 a) (by go_simp) nx0;have i2:=K1.cell (c:=w.heap.size) (o:=2) (v:=.int .i64 b) (by go_simp) nx0;have i4:=K1.cell (c:=w.heap.size) (o:=4) (v:=.int .i64 n) (by go_simp) nx0;have r0:=K1.cell (c:=w.heap.size+1) (o:=0) (v:=.int .i64 0) (by go_simp) nx1;have q0:=K1.frz (c:=w.heap.size+1) (o:=0) (b:=false) (by go_simp) (by simp) nx1;have r1:=K1.cell (c:=w.heap.size+1) (o:=1) (v:=.int .i64 0) (by go_simp) nx1;have q1:=K1.frz (c:=w.heap.size+1) (o:=1) (b:=false) (by go_simp) (by simp) nx1;obtain ⟨vb,vo,vcap,rfl,v1,v2,v3,v4,v5,v6⟩:=VS.one V1;rw [hy.out] at v5 v6;have vne:=vs_ne v4;have vne2:=vne.symm;have hb1:=H1.rows.base.2;have hsz1:w.heap.size+1 < w1.heap.size:=(by have:=K1.size;simp at this;omega);have c12:=H1.c12;have f12:=H1.fz 12 (by decide);have f6:=H1.fz 6 (by decide);have c6:=H1.c6;replace V1:=Lib.hid V1;replace F1:=Lib.hid F1;replace H1:=Lib.hid H1;replace K1:=Lib.hid (KB0.out.trans K1 (fun y hy=>.inl hy)))
 go_still_tail 6,(by kernel_rfl)
 go_wp2_with (go_at_call 133;refine (castR (H1.out.below (w':=w1.drew) (by exact Rd.byB)) hm y oky.out a).mono ?_;rintro e w2 ⟨rfl,R2⟩;have KK:=rru_kp R2;have s0:=KK.cell r0 (fun hk=>nx1 (.inl hk));have s1:=KK.cell r1 (fun hk=>nx1 (.inl hk));have t0:=KK.frz q0 (by first | omega | (simp;omega)) (fun hk=>nx1 (.inl hk));have t1:=KK.frz q1 (by first | omega | (simp;omega)) (fun hk=>nx1 (.inl hk));have u5:=KK.cell v5 (fun hk=>v4 (.inl (.inl hk)));have u6:=KK.cell v6 (fun hk=>v4 (.inl (.inl hk)));replace R2:=Lib.hid R2;replace KK:=Lib.hid KK)
 refine bodyPost_ret (v:=.agg #[.int .i64 y.kind,.int .i64 y.n]) (by simp [results,Tryz.results120,go_sem] <;> go_simp) rfl ?_
 exact give_of (b:=w.heap.size+1) (by omega) (by first | omega | (simp;omega)) HH.out (rru_val R2.out) (F1.out.below (by exact Rd.byB)) z1.out zp.out hkx.out (kb K1.out (by exact Rd.byB)) (by first | exact kp2 _ _ _ _ | exact kp2d _ _ _ _)
end
end Rhw
namespace Rhw
open Num Rd D Run Mem HierW Hpw
section
variable {E:Ev}{w w':World}{L L':RL}{h h':Hp}{d:Nat}{s:Sv}{P:Pl}{m:Me}{fr:Sf}{vs:Value}
theorem VS.of_row {base:Nat}{T:TypeId}{X:Nat→Prop}{v:Value}{l:List Vl}(H:w.ownsRow base T 2 v l.length (vcells l)) (hX:∀ k,X k→k < base):VS w X v l:=by
 by_cases h0:0 < l.length
 ·obtain ⟨g,cap,hv,c1,c2,c3,c4⟩:=row_form H h0
  rw [hv] at H ⊢
  refine ⟨_,cap,rfl,c1,c2,fun i hi=>⟨g,0,rfl,fun hx=>by have:=hX g hx;omega,?_,?_⟩⟩
  ·have:=row_cell H (vcells_get l i hi).1
   rw [Nat.zero_add,this,List.getD_eq_getElem?_getD,List.getElem?_eq_getElem hi];rfl
  ·have:=row_cell H (vcells_get l i hi).2
   rw [Nat.zero_add,this,List.getD_eq_getElem?_getD,List.getElem?_eq_getElem hi];rfl
 ·have hl:l=[]:=List.eq_nil_of_length_eq_zero (by omega)
  subst hl
  obtain ⟨a,cap,hv⟩:=row_any H
  rcases H.2 with ⟨hn,_⟩ | ⟨g,cap',cur,hv',_,_,_,hm,_⟩
  ·rw [hn];exact VS.nil _ _
  ·rw [hv'];exact VS.zero (by unfold maxLen at hm;exact hm)
theorem row0 {base b:Nat}{T:TypeId}(hb:base≤b) (h:w.heap[b]? = some (.cells #[] T (0,0))):w.ownsRow base T 2 (.slice (some ⟨b,0,none⟩) 0 0) 0 [] :=
 ⟨rfl,.inr ⟨b,0,#[],rfl,hb,h,Nat.le_refl _,by unfold maxLen;omega,rfl,rfl⟩⟩
theorem news_vs {b o:Nat}{l:List Vl}(h:∀ i (hi:i < l.length),w.cell? ⟨b,o+i*2,none⟩=some (.int .i64 l[i].kind)∧w.cell? ⟨b,o+i*2+1,none⟩=some (.int .i64 l[i].n)){W:World}(hb:Below w.heap.size w W):∀ j u,(vcells l)[j]? = some u→W.cell? ((⟨b,o,none⟩:Addr).add j)=some u:=fun j u hj=>by
 have hadd:(⟨b,o,none⟩:Addr).add j=⟨b,o+j,none⟩:=by unfold Addr.add;split <;> simp_all
 rw [hadd]
 have hl:j < l.length*2:=by rw [← vcells_len];exact (List.getElem?_eq_some_iff.1 hj).1
 have hi:j / 2 < l.length:=by omega
 obtain ⟨z0,z1⟩:=h (j / 2) hi
 obtain ⟨g0,g1⟩:=vcells_get l (j / 2) hi
 rcases (show j=j / 2*2∨j=j / 2*2+1 by omega) with e | e
 ·rw [e] at hj ⊢
  rw [g0] at hj
  rw [← hj,kept hb (cell_lt z0) z0,List.getD_eq_getElem?_getD,List.getElem?_eq_getElem hi];rfl
 ·rw [e] at hj ⊢
  rw [g1] at hj
  rw [← hj,show o+(j / 2*2+1)=o+j / 2*2+1 by omega,kept hb (cell_lt z1) z1,List.getD_eq_getElem?_getD,List.getElem?_eq_getElem hi];rfl
theorem one_vcells (l:List Vl):∀ u∈vcells l,u.oneCell'=true:=by
 intro u hu
 simp only [vcells,List.mem_flatMap,vcell] at hu
 obtain ⟨v,_,hu⟩:=hu
 rcases List.mem_cons.1 hu with e | e
 ·subst e;rfl
 ·rcases List.mem_cons.1 e with e | e
  ·subst e;rfl
  ·cases e
theorem szA (w:World) (A B:Obj):(((w.alloc A).alloc B).drew).heap.size=w.heap.size+1+1:=by simp [World.drew]
theorem szB (w:World) (A B C:Obj):((((w.alloc A).alloc B).alloc C).drew).heap.size=w.heap.size+1+1+1:=by simp [World.drew]
theorem heap_new' {W:World}{o:Obj}{b:Nat}(h:b=W.heap.size):(W.alloc o).heap[b]? = some o:=by
 subst h
 show (W.heap.push o)[W.heap.size]? = some o
 rw [Array.getElem?_push_size]
theorem heap_old' {W:World}{o x:Obj}{b:Nat}(h:W.heap[b]? = some x):(W.alloc o).heap[b]? = some x:=by
 rw [Below.heap_alloc _ _ _ (Array.getElem?_eq_some_iff.1 h).1];exact h
theorem news2 {W:World}{b:Nat}{x y:Value}(h0:W.cell? ⟨b,0,none⟩=some x) (h1:W.cell? ⟨b,1,none⟩=some y):∀ j u,([x,y]:List Value)[j]? = some u→W.cell? ((⟨b,0,none⟩:Addr).add j)=some u:=fun j u hj=>by
 have hadd:(⟨b,0,none⟩:Addr).add j=⟨b,j,none⟩:=by unfold Addr.add;split <;> simp_all
 rw [hadd]
 rcases j with _ | _ | j
 ·simp at hj;rw [← hj];exact h0
 ·simp at hj;rw [← hj];exact h1
 ·simp at hj
theorem grown_below {B n size:Nat}{T:TypeId}{v:Value}{xs:List Value}{w W w2:World}(hB:B≤W.heap.size) (hW:Below B w W) (hown:W.ownsRow B T size v n xs) (hg:W.grownBy w2 v.ownBlock):Below B w w2 :=
 ⟨hg.os.trans hW.os,hg.tape.trans hW.tape,hg.output.trans hW.output,Nat.le_trans hW.size hg.size,fun k hk =>
  (hg.block k (by omega) (fun e=>by have:=(World.ownsRow.lt hown k e.symm).1;omega)).trans (hW.block k hk)⟩
theorem grown_cell {W w2:World}{b8:Nat}{n c:Nat}(hg:W.grownBy w2 (Value.slice (some ⟨b8,0,none⟩) n c).ownBlock){b o:Nat}{u:Value}(hne:b≠b8) (h:W.cell? ⟨b,o,none⟩=some u):w2.cell? ⟨b,o,none⟩=some u :=
 (Kp.of_grown (X:=fun k=>k=b8) hg (fun k e=>by simp [Value.ownBlock] at e;exact e.symm)).cell h hne
def putS (s:Sv) (st:List Vl) (m:Me):Sv:=if s.over then s else if (size st:Int)≤m.stack then s else Sv.ends 6
theorem putS_run (st:List Vl) (m:Me):putS Sv.run st m=if (size st:Int)≤m.stack then Sv.run else Sv.ends 6:=rfl
def PutR (E:Ev) (L:RL) (P:Pl) (m:Me) (h:Hp) (d:Nat) (s:Sv) (fr:Sf) (w:World) (e:Ending) (w':World):Prop :=
 ∃ vs',e=.returned (.tuple #[])∧Fr E w' L P m fr vs'∧RH E w' L h d s∧Kp (KX E L P) w w'
theorem stopsF (H:RH E w L h d s) (hs:(s.over || decide (0≤s.thrown))=false):Calls Tryz.prog 116 #[.pointer (some ⟨E.hb,0,none⟩)] w fun r w'=>r=.returned (.bool false)∧w=w':=by
 have:=stops H;rw [hs] at this;exact this
theorem stopsO (H:RH E w L h d s) (hs:(s.over || decide (0≤s.thrown))=true):Calls Tryz.prog 116 #[.pointer (some ⟨E.hb,0,none⟩)] w fun r w'=>r=.returned (.bool true)∧w=w':=by
 have:=stops H;rw [hs] at this;exact this
set_option maxRecDepth 100000 in
theorem putN (H:RH E w L h d s) (hs:s=Sv.run∨∃ c,s=Sv.ends c) (F:Fr E w L P m fr vs) (v:Vl) (h0:0 < fr.stk.length) (h1000:fr.stk.length≤900) :
  Calls Tryz.prog 68 #[.pointer (some ⟨E.hb,0,none⟩),.pointer (some ⟨P.cb,0,none⟩),.agg #[.int .i64 v.kind,.int .i64 v.n]] w (PutR E L P m h d (putS s (fr.stk++[v]) m) ⟨fr.loc,fr.stk++[v],fr.at_⟩ w):=by
 obtain ⟨io,hi',hy0,hy1,hy2⟩:=info_parts info_val
 have HH:=Lib.hid H
 have HF:=Lib.hid F
 have c9:=F.c9
 have f9:=F.fz 9 (by decide)
 have hcb:=F.cbw
 have hcb1:P.cb < w.heap.size+1:=by omega
 have hcb2:P.cb < w.heap.size+1+1:=by omega
 have hcb3:P.cb < w.heap.size+1+1+1:=by omega
 have hfx:Hid (∀ k,FX E L P k→k < w.heap.size):=fun k hk=>by
  rcases hk with (hk | hk | hk) | hk
  ·exact (own_lo H.rows hk).2
  ·rw [hk];exact F.cbw
  ·rw [hk];exact F.lbw
  ·exact F.zlt k hk
 obtain ⟨sb,so,scap,rfl,k1,k2,hsb,_,hel⟩:=F.stk.form h0
 replace hel:=Lib.hid hel
 have hvl:=vcells_len fr.stk
 replace hvl:=Lib.hid hvl
 clear H F
 go_enter Tryz.func68,Tryz.ntmps68
 go_wp2
 go_region_law ((first | (refine step_append_lies _ rfl (.tmp 8) (.tmp 12) 69 rfl w.heap.size 72 io (.agg #[.int .i64 0,.int .i64 0]) 2 16 Tryz.underlying69 hi' hy0 hy1 hy2 rfl (by decide) _ 0 [] (by rfl) (by refine row0 (by first | omega | (simp;omega)) ?_;repeat (first | exact heap_new' (by simp) | refine heap_old' ?_)) ⟨sb,so,none⟩ fr.stk.length scap (vcells fr.stk) (by simp [Act.eval,Act.put]) hvl.out (by exact news_vs hel.out (by exact Rd.byB)) (one_vcells _) h0 (by unfold maxLen;omega) (by omega) (by simp;omega) _ (szA w _ (.cells #[] 72)) ?_;intro g2 cap2 w3 hown3 hgrow3 hat3 hlt3;simp only [Nat.zero_add,List.nil_append] at hown3;have HB3:=Lib.hid (grown_below (B:=w.heap.size) (w:=w) (by first | omega | (simp;omega)) (by exact Rd.byB) (row0 (T:=72) (by first | omega | (simp;omega)) (by repeat (first | exact heap_new' (by simp) | refine heap_old' ?_))) hgrow3);have x0:=grown_cell hgrow3 (b:=w.heap.size) (o:=0) (u:=.int .i64 v.kind) (by omega) (by go_simp);have x1:=grown_cell hgrow3 (b:=w.heap.size) (o:=1) (u:=.int .i64 v.n) (by omega) (by go_simp);have c9':=kept HB3.out hcb c9;have hsz3:=HB3.out.size;replace hown3:=Lib.hid hown3;clear hgrow3 hat3) | (refine step_append_lies _ rfl (.tmp 8) (.tmp 12) 69 rfl w.heap.size 72 io (.agg #[.int .i64 0,.int .i64 0]) 2 16 Tryz.underlying69 hi' hy0 hy1 hy2 rfl (by decide) _ 0 [] (by rfl) (by refine row0 (by first | omega | (simp;omega)) ?_;repeat (first | exact heap_new' (by simp) | refine heap_old' ?_)) ⟨sb,so,none⟩ fr.stk.length scap (vcells fr.stk) (by simp [Act.eval,Act.put]) hvl.out (by exact news_vs hel.out (by exact Rd.byB)) (one_vcells _) h0 (by unfold maxLen;omega) (by omega) (by simp;omega) _ (szB w _ (.cells #[] 72) (.cells #[.int .i64 v.kind,.int .i64 v.n] 72)) ?_;intro g2 cap2 w3 hown3 hgrow3 hat3 hlt3;simp only [Nat.zero_add,List.nil_append] at hown3;have HB3:=Lib.hid (grown_below (B:=w.heap.size) (w:=w) (by first | omega | (simp;omega)) (by exact Rd.byB) (row0 (T:=72) (by first | omega | (simp;omega)) (by repeat (first | exact heap_new' (by simp) | refine heap_old' ?_))) hgrow3);have x0:=grown_cell hgrow3 (b:=w.heap.size) (o:=0) (u:=.int .i64 v.kind) (by omega) (by go_simp);have x1:=grown_cell hgrow3 (b:=w.heap.size) (o:=1) (u:=.int .i64 v.n) (by omega) (by go_simp);have p2:=grown_cell hgrow3 (b:=w.heap.size+1+1) (o:=0) (u:=.int .i64 v.kind) (by omega) (by go_simp);have p3:=grown_cell hgrow3 (b:=w.heap.size+1+1) (o:=1) (u:=.int .i64 v.n) (by omega) (by go_simp);have c9':=kept HB3.out hcb c9;have hsz3:=HB3.out.size;replace hown3:=Lib.hid hown3;clear hgrow3 hat3) | (refine step_append_lies _ rfl (.tmp 8) (.tmp 12) 69 rfl w.heap.size 72 io (.agg #[.int .i64 0,.int .i64 0]) 2 16 Tryz.underlying69 hi' hy0 hy1 hy2 rfl (by decide) _ 0 [] (by rfl) (by refine row0 (by first | omega | (simp;omega)) ?_;repeat (first | exact heap_new' (by simp) | refine heap_old' ?_)) ⟨sb,so,none⟩ fr.stk.length scap (vcells fr.stk) (by simp [Act.eval,Act.put]) hvl.out (by exact news_vs hel.out (by exact Rd.byB)) (one_vcells _) h0 (by unfold maxLen;omega) (by omega) (by simp;omega) _ (szB w _ (.cells #[.int .i64 v.kind,.int .i64 v.n] 72) (.cells #[] 72)) ?_;intro g2 cap2 w3 hown3 hgrow3 hat3 hlt3;simp only [Nat.zero_add,List.nil_append] at hown3;have HB3:=Lib.hid (grown_below (B:=w.heap.size) (w:=w) (by first | omega | (simp;omega)) (by exact Rd.byB) (row0 (T:=72) (by first | omega | (simp;omega)) (by repeat (first | exact heap_new' (by simp) | refine heap_old' ?_))) hgrow3);have x0:=grown_cell hgrow3 (b:=w.heap.size) (o:=0) (u:=.int .i64 v.kind) (by omega) (by go_simp);have x1:=grown_cell hgrow3 (b:=w.heap.size) (o:=1) (u:=.int .i64 v.n) (by omega) (by go_simp);have p0:=grown_cell hgrow3 (b:=w.heap.size+1) (o:=0) (u:=.int .i64 v.kind) (by omega) (by go_simp);have p1:=grown_cell hgrow3 (b:=w.heap.size+1) (o:=1) (u:=.int .i64 v.n) (by omega) (by go_simp);have c9':=kept HB3.out hcb c9;have hsz3:=HB3.out.size;replace hown3:=Lib.hid hown3;clear hgrow3 hat3) | (refine step_append_lies _ rfl (.tmp 13) (.tmp 15) 69 rfl w.heap.size 72 io (.agg #[.int .i64 0,.int .i64 0]) 2 16 Tryz.underlying69 hi' hy0 hy1 hy2 rfl (by decide) _ fr.stk.length (vcells fr.stk) (by rfl) (by repeat (first | exact hown3.out | refine row_alloc ?_ _ | refine row_drew ?_)) ⟨_,0,none⟩ 1 1 [.int .i64 v.kind,.int .i64 v.n] (by rfl) rfl (news2 p2 p3) (by simp [Value.oneCell']) (by decide) (by unfold maxLen;omega) (by omega) (by first | omega | (simp;omega)) _ rfl ?_;intro g4 cap4 w4 hown4 hgrow4 hat4 hlt4;have HB4:=Lib.hid (grown_below (B:=w.heap.size) (w:=w) (by first | omega | (simp;omega)) (Below.trans HB3.out (by exact Rd.byB)) (show World.ownsRow _ w.heap.size 72 2 _ (fr.stk.length) (vcells fr.stk) by repeat (first | exact hown3.out | refine row_alloc ?_ _ | refine row_drew ?_)) hgrow4);have c9'':=kept HB4.out hcb c9;have f9'':=(kpB (X:=fun _=>False) HB4.out).frz f9 hcb (fun e=>e);replace hown4:=Lib.hid hown4;clear hgrow4 hat4) | (refine step_append_lies _ rfl (.tmp 13) (.tmp 15) 69 rfl w.heap.size 72 io (.agg #[.int .i64 0,.int .i64 0]) 2 16 Tryz.underlying69 hi' hy0 hy1 hy2 rfl (by decide) _ fr.stk.length (vcells fr.stk) (by rfl) (by repeat (first | exact hown3.out | refine row_alloc ?_ _ | refine row_drew ?_)) ⟨_,0,none⟩ 1 1 [.int .i64 v.kind,.int .i64 v.n] (by rfl) rfl (news2 p0 p1) (by simp [Value.oneCell']) (by decide) (by unfold maxLen;omega) (by omega) (by first | omega | (simp;omega)) _ rfl ?_;intro g4 cap4 w4 hown4 hgrow4 hat4 hlt4;have HB4:=Lib.hid (grown_below (B:=w.heap.size) (w:=w) (by first | omega | (simp;omega)) (Below.trans HB3.out (by exact Rd.byB)) (show World.ownsRow _ w.heap.size 72 2 _ (fr.stk.length) (vcells fr.stk) by repeat (first | exact hown3.out | refine row_alloc ?_ _ | refine row_drew ?_)) hgrow4);have c9'':=kept HB4.out hcb c9;have f9'':=(kpB (X:=fun _=>False) HB4.out).frz f9 hcb (fun e=>e);replace hown4:=Lib.hid hown4;clear hgrow4 hat4) | (refine step_append_lies _ rfl (.tmp 13) (.tmp 15) 69 rfl w.heap.size 72 io (.agg #[.int .i64 0,.int .i64 0]) 2 16 Tryz.underlying69 hi' hy0 hy1 hy2 rfl (by decide) _ fr.stk.length (vcells fr.stk) (by rfl) (by repeat (first | exact hown3.out | refine row_alloc ?_ _ | refine row_drew ?_)) ⟨_,0,none⟩ 1 1 [.int .i64 v.kind,.int .i64 v.n] (by rfl) rfl (by exact news2 (by go_simp) (by go_simp)) (by simp [Value.oneCell']) (by decide) (by unfold maxLen;omega) (by omega) (by first | omega | (simp;omega)) _ rfl ?_;intro g4 cap4 w4 hown4 hgrow4 hat4 hlt4;have HB4:=Lib.hid (grown_below (B:=w.heap.size) (w:=w) (by first | omega | (simp;omega)) (Below.trans HB3.out (by exact Rd.byB)) (show World.ownsRow _ w.heap.size 72 2 _ (fr.stk.length) (vcells fr.stk) by repeat (first | exact hown3.out | refine row_alloc ?_ _ | refine row_drew ?_)) hgrow4);have c9'':=kept HB4.out hcb c9;have f9'':=(kpB (X:=fun _=>False) HB4.out).frz f9 hcb (fun e=>e);replace hown4:=Lib.hid hown4;clear hgrow4 hat4) | fail))
 all_goals
  have hvc:vcells (fr.stk++[v])=vcells fr.stk++[.int .i64 v.kind,.int .i64 v.n]:=by rw [vcells_append];rfl
  have hrow:=hown4.out
  rw [← hvc] at hrow
  have V4:VS w4 (FX E L P) (.slice (some ⟨g4,0,none⟩) (fr.stk.length+1) cap4) (fr.stk++[v]):=VS.of_row (base:=w.heap.size) (by rw [List.length_append];exact hrow) (fun k hk=>hfx.out k hk)
  have F4:=HF.out.below HB4.out
  have F5:=Lib.hid (F4.push V4)
  have H5:=Lib.hid ((HH.out.below HB4.out).frame F4 (kpC P w4 9 (.slice (some ⟨g4,0,none⟩) (fr.stk.length+1) cap4)))
  have K5:=Lib.hid (kpFX (E:=E) (L:=L) (P:=P) (kpC P w4 9 (.slice (some ⟨g4,0,none⟩) (fr.stk.length+1) cap4)) (fun k e=>.inr e))
  have c3':=F5.out.c3
  have c9n:=F5.out.c9
  clear hvc hrow V4 F4 c9'' f9'' c9
  rcases hs with rfl | ⟨c,rfl⟩
  ·by_cases hfit:(size (fr.stk++[v]):Int)≤m.stack
   ·have hf:decide ((size (fr.stk++[v]):Int)≤m.stack)=true:=by simpa using hfit
    go_wp2_with (first | (go_at_call 61;refine (sizeR F5.out.stk (by simp;omega)).mono ?_;rintro e w6 ⟨rfl,rfl⟩) | (go_at_call 116;refine (stopsF H5.out rfl).mono ?_;rintro e w6 ⟨rfl,rfl⟩) | (go_at_call 63;refine (mustT H5.out rfl).mono ?_;rintro e w6 ⟨rfl,rfl⟩))
    go_end0
    refine ⟨_,rfl,F5.out,?_,(kpB HB4.out).trans K5.out (fun _ h=>.inl h)⟩
    rw [putS_run,if_pos hfit];exact H5.out
   ·have hf:decide ((size (fr.stk++[v]):Int)≤m.stack)=false:=by simpa using hfit
    go_wp2_with (first | (go_at_call 61;refine (sizeR F5.out.stk (by simp;omega)).mono ?_;rintro e w6 ⟨rfl,rfl⟩) | (go_at_call 116;refine (stopsF H5.out rfl).mono ?_;rintro e w6 ⟨rfl,rfl⟩) | (go_at_call 63;refine (mustF H5.out rfl).mono ?_;rintro e w6 ⟨rfl,rfl⟩))
    go_end0
    obtain ⟨q1,q2⟩:=ended H5.out rfl 6 (Below.refl _ _)
    refine ⟨_,rfl,F5.out.heap q2 same_own,?_,((kpB HB4.out).trans K5.out (fun _ h=>.inl h)).trans q2 (fun _ h=>.inl (.inl h))⟩
    rw [putS_run,if_neg (by omega)];exact q1
  ·go_wp2_with (first | (go_at_call 61;refine (sizeR F5.out.stk (by simp;omega)).mono ?_;rintro e w6 ⟨rfl,rfl⟩) | (go_at_call 116;refine (stopsO H5.out rfl).mono ?_;rintro e w6 ⟨rfl,rfl⟩))
   go_end0
   exact ⟨_,rfl,F5.out,H5.out,(kpB HB4.out).trans K5.out (fun _ h=>.inl h)⟩
end
end Rhw
namespace Rhw
open Num Rd D Run Mem HierW Hpw
section
variable {E:Ev}{w w':World}{L L':RL}{h h':Hp}{d:Nat}{s:Sv}{P:Pl}{m:Me}{fr:Sf}{vs:Value}
set_option maxRecDepth 100000 in
theorem put0 (H:RH E w L h d s) (hs:s=Sv.run∨∃ c,s=Sv.ends c) (F:Fr E w L P m fr vs) (v:Vl) (h0:fr.stk=[]) :
  Calls Tryz.prog 68 #[.pointer (some ⟨E.hb,0,none⟩),.pointer (some ⟨P.cb,0,none⟩),.agg #[.int .i64 v.kind,.int .i64 v.n]] w (PutR E L P m h d (putS s (fr.stk++[v]) m) ⟨fr.loc,fr.stk++[v],fr.at_⟩ w):=by
 obtain ⟨io,hi',hy0,hy1,hy2⟩:=info_parts info_val
 have HH:=Lib.hid H
 have HF:=Lib.hid F
 have f9:=F.fz 9 (by decide)
 have hcb:=F.cbw
 have hcb1:P.cb < w.heap.size+1:=by omega
 have hcb2:P.cb < w.heap.size+1+1:=by omega
 have hcb3:P.cb < w.heap.size+1+1+1:=by omega
 have hfx:Hid (∀ k,FX E L P k→k < w.heap.size):=fun k hk=>by
  rcases hk with (hk | hk | hk) | hk
  ·exact (own_lo H.rows hk).2
  ·rw [hk];exact F.cbw
  ·rw [hk];exact F.lbw
  ·exact F.zlt k hk
 obtain ⟨sa,scap,rfl,k1,k2⟩:=F.stk.len
 have c9:w.cell? ⟨P.cb,9,none⟩=some (.slice sa 0 scap):=by have:=F.c9;rw [h0] at this;exact this
 have hl0:fr.stk.length=0:=by rw [h0];rfl
 replace h0:=Lib.hid h0
 clear H F k1 hl0
 cases sa
 all_goals
  go_enter Tryz.func68,Tryz.ntmps68
  go_wp2
  go_region_law ((first | (refine step_append_lies _ rfl (.tmp 13) (.tmp 15) 69 rfl w.heap.size 72 io (.agg #[.int .i64 0,.int .i64 0]) 2 16 Tryz.underlying69 hi' hy0 hy1 hy2 rfl (by decide) _ 0 [] (by rfl) (by refine row0 (by first | omega | (simp;omega)) ?_;repeat (first | exact heap_new' (by simp) | refine heap_old' ?_)) ⟨_,0,none⟩ 1 1 [.int .i64 v.kind,.int .i64 v.n] (by rfl) rfl (by exact news2 (by go_simp) (by go_simp)) (by simp [Value.oneCell']) (by decide) (by unfold maxLen;omega) (by omega) (by first | omega | (simp;omega)) _ rfl ?_;intro g4 cap4 w4 hown4 hgrow4 hat4 hlt4;have HB4:=Lib.hid (grown_below (B:=w.heap.size) (w:=w) (by first | omega | (simp;omega)) (by exact Rd.byB) (show World.ownsRow _ w.heap.size 72 2 _ 0 [] by refine row0 (by first | omega | (simp;omega)) ?_;repeat (first | exact heap_new' (by simp) | refine heap_old' ?_)) hgrow4);have c9'':=kept HB4.out hcb c9;have f9'':=(kpB (X:=fun _=>False) HB4.out).frz f9 hcb (fun e=>e);simp only [Nat.zero_add,List.nil_append] at hown4;replace hown4:=Lib.hid hown4;clear hgrow4 hat4) | fail))
  all_goals
   have hvc:vcells (fr.stk++[v])=[.int .i64 v.kind,.int .i64 v.n]:=by rw [h0.out];rfl
   have hrow:=hown4.out
   rw [← hvc] at hrow
   have V4:VS w4 (FX E L P) (.slice (some ⟨g4,0,none⟩) 1 cap4) (fr.stk++[v]):=VS.of_row (base:=w.heap.size) (by rw [h0.out] at hrow ⊢;exact hrow) (fun k hk=>hfx.out k hk)
   have F4:=HF.out.below HB4.out
   have F5:=Lib.hid (F4.push V4)
   have H5:=Lib.hid ((HH.out.below HB4.out).frame F4 (kpC P w4 9 (.slice (some ⟨g4,0,none⟩) 1 cap4)))
   have K5:=Lib.hid (kpFX (E:=E) (L:=L) (P:=P) (kpC P w4 9 (.slice (some ⟨g4,0,none⟩) 1 cap4)) (fun k e=>.inr e))
   have c3':=F5.out.c3
   have c9n:=F5.out.c9
   clear hvc hrow V4 F4 c9'' f9'' c9
   rcases hs with rfl | ⟨c,rfl⟩
   ·by_cases hfit:(size (fr.stk++[v]):Int)≤m.stack
    ·have hf:decide ((size (fr.stk++[v]):Int)≤m.stack)=true:=by simpa using hfit
     go_wp2_with (first | (go_at_call 61;refine (sizeR F5.out.stk (by rw [h0.out];simp)).mono ?_;rintro e w6 ⟨rfl,rfl⟩) | (go_at_call 116;refine (stopsF H5.out rfl).mono ?_;rintro e w6 ⟨rfl,rfl⟩) | (go_at_call 63;refine (mustT H5.out rfl).mono ?_;rintro e w6 ⟨rfl,rfl⟩))
     go_end0
     refine ⟨_,rfl,F5.out,?_,(kpB HB4.out).trans K5.out (fun _ h=>.inl h)⟩
     rw [putS_run,if_pos hfit];exact H5.out
    ·have hf:decide ((size (fr.stk++[v]):Int)≤m.stack)=false:=by simpa using hfit
     go_wp2_with (first | (go_at_call 61;refine (sizeR F5.out.stk (by rw [h0.out];simp)).mono ?_;rintro e w6 ⟨rfl,rfl⟩) | (go_at_call 116;refine (stopsF H5.out rfl).mono ?_;rintro e w6 ⟨rfl,rfl⟩) | (go_at_call 63;refine (mustF H5.out rfl).mono ?_;rintro e w6 ⟨rfl,rfl⟩))
     go_end0
     obtain ⟨q1,q2⟩:=ended H5.out rfl 6 (Below.refl _ _)
     refine ⟨_,rfl,F5.out.heap q2 same_own,?_,((kpB HB4.out).trans K5.out (fun _ h=>.inl h)).trans q2 (fun _ h=>.inl (.inl h))⟩
     rw [putS_run,if_neg (by omega)];exact q1
   ·go_wp2_with (first | (go_at_call 61;refine (sizeR F5.out.stk (by rw [h0.out];simp)).mono ?_;rintro e w6 ⟨rfl,rfl⟩) | (go_at_call 116;refine (stopsO H5.out rfl).mono ?_;rintro e w6 ⟨rfl,rfl⟩))
    go_end0
    exact ⟨_,rfl,F5.out,H5.out,(kpB HB4.out).trans K5.out (fun _ h=>.inl h)⟩
end
end Rhw
namespace Rhw
open Num Rd D Run Mem HierW Hpw
section
variable {E:Ev}{w w' w2:World}{L L' L2:RL}{h h':Hp}{d:Nat}{s:Sv}{P:Pl}{m:Me}{fr fr':Sf}{vs vs2:Value}
theorem Fr.stores {l:List Vl}(F:Fr E w L P m fr vs) (hl:l.length=fr.loc.length) (hB:Blk w' P.lb (vcells l)) (K:Kp (fun k=>k=P.lb) w w'):Fr E w' L P m ⟨l,fr.stk,fr.at_⟩ vs:=by
 refine ⟨?_,hB,Nat.lt_of_lt_of_le F.lbw K.size,F.stk.next K (fun b _ e=>.inl (.inr (.inr e))) (fun _ _ e=>e),F.lo,F.far,F.ne,fun k hk=>Nat.lt_of_lt_of_le (F.zlt k hk) K.size⟩
 have:=F.blk.next K (fun e=>F.ne e)
 unfold fcells at this ⊢
 rw [hl];exact this
theorem putA (H:RH E w L h d s) (hs:s=Sv.run∨∃ c,s=Sv.ends c) (F:Fr E w L P m fr vs) (v:Vl) (hl:fr.stk.length≤900) :
  Calls Tryz.prog 68 #[.pointer (some ⟨E.hb,0,none⟩),.pointer (some ⟨P.cb,0,none⟩),.agg #[.int .i64 v.kind,.int .i64 v.n]] w (PutR E L P m h d (putS s (fr.stk++[v]) m) ⟨fr.loc,fr.stk++[v],fr.at_⟩ w):=by
 by_cases h0:fr.stk=[]
 ·exact put0 H hs F v h0
 ·exact putN H hs F v (by have:=stk_ne h0;omega) hl
theorem putS_full {st:List Vl}{m:Me}(h:m.stack < (size st:Int)):putS Sv.run st m=Sv.ends 6:=by rw [putS_run,if_neg (by omega)]
def ActR (E:Ev) (L:RL) (P:Pl) (m:Me) (d:Nat) (fr:Sf) (w:World) (a:Run.Act Sf) (e:Ending) (w':World):Prop :=
 ∃ n:Int,e=.returned (.int .i64 n)∧∃ L',Kp (KX E L P) w w'∧(∀ k,own E L' k→own E L k∨w.heap.size≤k)∧match a with
  | .go fr' h'=>n=fr'.at_∧RH E w' L' h' d Sv.run∧∃ vs',Fr E w' L' P m ⟨fr'.loc,fr'.stk,fr.at_⟩ vs'
  | .thrown o h'=>RH E w' L' h' d (Sv.thr o)∧∃ st vs',Fr E w' L' P m ⟨fr.loc,st,fr.at_⟩ vs'
  | .stop c h'=>RH E w' L' h' d (Sv.ends c)
  | _=>False
theorem act_go {n:Int}{a:Run.Act Sf}(ha:a=.go fr' h') (hn:n=fr'.at_) (K:Kp (KX E L P) w w2) (N:∀ k,own E L2 k→own E L k∨w.heap.size≤k) (H:RH E w2 L2 h' d Sv.run) (F:Fr E w2 L2 P m ⟨fr'.loc,fr'.stk,fr.at_⟩ vs2):ActR E L P m d fr w a (.returned (.int .i64 n)) w2:=by
 subst ha;exact ⟨n,rfl,L2,K,N,hn,H,vs2,F⟩
theorem act_stop {n:Int}{c:Int}{a:Run.Act Sf}(ha:a=.stop c h') (K:Kp (KX E L P) w w2) (N:∀ k,own E L2 k→own E L k∨w.heap.size≤k) (H:RH E w2 L2 h' d (Sv.ends c)):ActR E L P m d fr w a (.returned (.int .i64 n)) w2:=by
 subst ha;exact ⟨n,rfl,L2,K,N,H⟩
theorem act_thr {n:Int}{o:Nat}{a:Run.Act Sf}{st:List Vl}(ha:a=.thrown o h') (K:Kp (KX E L P) w w2) (N:∀ k,own E L2 k→own E L k∨w.heap.size≤k) (H:RH E w2 L2 h' d (Sv.thr o)) (F:Fr E w2 L2 P m ⟨fr.loc,st,fr.at_⟩ vs2):ActR E L P m d fr w a (.returned (.int .i64 n)) w2:=by
 subst ha;exact ⟨n,rfl,L2,K,N,H,st,vs2,F⟩
theorem of_beq {a b:Int}(h:(a==b)=true):a=b:=by simpa using h
theorem act_push {n:Int}{v:Vl}{st:List Vl}(hn:n=(fr.at_+1:Nat)) (K:Kp (KX E L P) w w2) (N:∀ k,own E L2 k→own E L k∨w.heap.size≤k) (H:RH E w2 L2 h d (putS Sv.run (st++[v]) m)) (F:Fr E w2 L2 P m ⟨fr.loc,st++[v],fr.at_⟩ vs2):ActR E L P m d fr w (push m fr st v h) (.returned (.int .i64 n)) w2:=by
 rw [putS_run] at H
 unfold push
 by_cases q:(size (st++[v]):Int)≤m.stack
 ·rw [if_pos q] at H ⊢
  exact act_go rfl hn K N H F
 ·rw [if_neg q] at H ⊢
  exact act_stop rfl K N H
end
end Rhw
end Go.Proofs.YtncmhenfgbcihabGreat
