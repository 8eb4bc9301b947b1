/- Parts of the proof: Rt1, Rt2, Rt3, Rt4, Rt5, Rt6, RunT. -/
import Derived.Test.YtncmhenfgbcihabGreatG04
import Derived.StillTailTactics
import Derived.Test.YtncmhenfgbcihabGreatG01
import Derived.Test.YtncmhenfgbcihabGreatG03
set_option linter.unusedSimpArgs false
set_option linter.unusedVariables false
set_option maxHeartbeats 8000000
namespace Go.Proofs.YtncmhenfgbcihabGreat
open Go.RowKit
namespace Rhw
open Num Rd D Run Mem HierW Hpw
section
variable {E:Ev}{w w' w2:World}{L L' L2:RL}{h h':Hp}{d:Nat}{s:Sv}{P:Pl}{m:Me}{fr fr':Sf}{vs vs2:Value}
set_option maxRecDepth 100000 in
theorem do11 (H:RH E w L h d Sv.run) (F:Fr E w L P m fr vs) (hl:fr.stk.length≤500) (hat:fr.at_≤100000) (a b c n:Int) (va:Value) (ha:0≤a) :
  Calls Tryz.prog 66 #[.pointer (some ⟨E.hb,0,none⟩),.pointer (some ⟨P.cb,0,none⟩),.agg #[.int .i64 11,.int .i64 a,.int .i64 b,.int .i64 c,.int .i64 n,va]] w (ActR E L P m d fr w (.go (on fr fr.stk a.toNat) h)):=by
 have hKX:∀ k,KX E L P k→k < w.heap.size:=fun k hk=>by
  rcases hk with hk | hk | hk
  ·exact (own_lo H.rows hk).2
  ·rw [hk];exact F.cbw
  ·rw [hk];exact F.lbw
 have HH:=Lib.hid H
 have hhb0:E.hb < w.heap.size:=H.rows.base.2
 have hhb1:E.hb < w.heap.size+1:=by omega
 have hcb0:P.cb < w.heap.size:=F.cbw
 have c10:=F.c10
 obtain ⟨Z,hZ⟩:∃ Z:Nat→Prop,Hid (Z=fun k=>P.Z k∨k=w.heap.size):=⟨_,rfl⟩
 have HB0:Below w.heap.size w (w.alloc (.cells #[.int .i64 11,.int .i64 a,.int .i64 b,.int .i64 c,.int .i64 n,va] 66)):=by exact Rd.byB
 have H0:=Lib.hid (H.below HB0)
 have F0:=Lib.hid (F.zone HB0 Z (fun k hk=>by rw [hZ.out] at hk;rcases hk with q | q;exact .inl q;exact .inr (by omega)) (fun k hk=>by rw [hZ.out] at hk;rcases hk with q | q;exact Nat.lt_of_lt_of_le (F.zlt k q) HB0.size;(simp;omega)))
 have nx0:¬ KX E L (P.zone Z) w.heap.size:=fun hk=>by have:=hKX _ hk;omega
 have zp:Hid (∀ k,P.Z k→Z k):=fun k hk=>by rw [hZ.out];exact .inl hk
 have hkx:=Lib.hid hKX
 have KB0:=Lib.hid (kpB (X:=KX E L P) HB0)
 clear H F hZ HB0 hKX
 go_enter Tryz.func66,Tryz.ntmps66
 go_wp2
 go_ret
 exact act_go rfl (by simp [on];omega) KB0.out same_own H0.out (F0.out.unzone zp.out)
set_option maxRecDepth 100000 in
theorem do13S (H:RH E w L h d Sv.run) (F:Fr E w L P m fr vs) (hl:fr.stk.length≤500) (hat:fr.at_≤100000) (hn:fr.stk=[]) (a b c n:Int) (va:Value) :
  Calls Tryz.prog 66 #[.pointer (some ⟨E.hb,0,none⟩),.pointer (some ⟨P.cb,0,none⟩),.agg #[.int .i64 13,.int .i64 a,.int .i64 b,.int .i64 c,.int .i64 n,va]] w (ActR E L P m d fr w (.stop 6 h)):=by
 have hKX:∀ k,KX E L P k→k < w.heap.size:=fun k hk=>by
  rcases hk with hk | hk | hk
  ·exact (own_lo H.rows hk).2
  ·rw [hk];exact F.cbw
  ·rw [hk];exact F.lbw
 have HH:=Lib.hid H
 have hhb0:E.hb < w.heap.size:=H.rows.base.2
 have hhb1:E.hb < w.heap.size+1:=by omega
 have hcb0:P.cb < w.heap.size:=F.cbw
 have c10:=F.c10
 obtain ⟨Z,hZ⟩:∃ Z:Nat→Prop,Hid (Z=fun k=>P.Z k∨k=w.heap.size):=⟨_,rfl⟩
 have HB0:Below w.heap.size w (w.alloc (.cells #[.int .i64 13,.int .i64 a,.int .i64 b,.int .i64 c,.int .i64 n,va] 66)):=by exact Rd.byB
 have H0:=Lib.hid (H.below HB0)
 have F0:=Lib.hid (F.zone HB0 Z (fun k hk=>by rw [hZ.out] at hk;rcases hk with q | q;exact .inl q;exact .inr (by omega)) (fun k hk=>by rw [hZ.out] at hk;rcases hk with q | q;exact Nat.lt_of_lt_of_le (F.zlt k q) HB0.size;(simp;omega)))
 have nx0:¬ KX E L (P.zone Z) w.heap.size:=fun hk=>by have:=hKX _ hk;omega
 have zp:Hid (∀ k,P.Z k→Z k):=fun k hk=>by rw [hZ.out];exact .inl hk
 have hkx:=Lib.hid hKX
 have KB0:=Lib.hid (kpB (X:=KX E L P) HB0)
 clear H F hZ HB0 hKX
 go_enter Tryz.func66,Tryz.ntmps66
 go_wp2_with (first | (go_at_call 64;refine (take1S H0.out F0.out hn).mono ?_;rintro e w1 ⟨vt,vs1,rfl,V1,F1,H1,K1⟩;have i0:=K1.cell (c:=w.heap.size) (o:=0) (v:=.int .i64 13) (by go_simp) nx0;have i1:=K1.cell (c:=w.heap.size) (o:=1) (v:=.int .i64 a) (by go_simp) nx0;have i2:=K1.cell (c:=w.heap.size) (o:=2) (v:=.int .i64 b) (by go_simp) nx0;have i4:=K1.cell (c:=w.heap.size) (o:=4) (v:=.int .i64 n) (by go_simp) nx0;obtain ⟨vb,vo,vcap,rfl,v1,v2,v3,v4,v5,v6⟩:=VS.one V1;have vne:=vs_ne v4;have vne2:=vne.symm;have hb1:=H1.rows.base.2;have hsz1:w.heap.size < w1.heap.size:=(by have:=K1.size;simp at this;omega);have c12:=H1.c12;replace V1:=Lib.hid V1;replace F1:=Lib.hid F1;replace H1:=Lib.hid H1;replace K1:=Lib.hid (KB0.out.trans K1 (fun y hy=>.inl hy))) | (go_at_call 63;refine (mustO H1.out rfl _).mono ?_;rintro e w2 ⟨rfl,rfl⟩))
 go_ret
 exact act_stop rfl K1.out same_own H1.out
set_option maxRecDepth 100000 in
theorem do13 (H:RH E w L h d Sv.run) (F:Fr E w L P m fr vs) (hl:fr.stk.length≤500) (hat:fr.at_≤100000) (hn:fr.stk≠[]) (a b c n:Int) (va:Value) (ha:0≤a) :
  Calls Tryz.prog 66 #[.pointer (some ⟨E.hb,0,none⟩),.pointer (some ⟨P.cb,0,none⟩),.agg #[.int .i64 13,.int .i64 a,.int .i64 b,.int .i64 c,.int .i64 n,va]] w (ActR E L P m d fr w (kindly (top fr.stk) 3 h (.go (on fr fr.stk.dropLast (if (top fr.stk).n < 0 then a.toNat else fr.at_+1)) h))):=by
 have hKX:∀ k,KX E L P k→k < w.heap.size:=fun k hk=>by
  rcases hk with hk | hk | hk
  ·exact (own_lo H.rows hk).2
  ·rw [hk];exact F.cbw
  ·rw [hk];exact F.lbw
 have HH:=Lib.hid H
 have hhb0:E.hb < w.heap.size:=H.rows.base.2
 have hhb1:E.hb < w.heap.size+1:=by omega
 have hcb0:P.cb < w.heap.size:=F.cbw
 have c10:=F.c10
 obtain ⟨Z,hZ⟩:∃ Z:Nat→Prop,Hid (Z=fun k=>P.Z k∨k=w.heap.size):=⟨_,rfl⟩
 have HB0:Below w.heap.size w (w.alloc (.cells #[.int .i64 13,.int .i64 a,.int .i64 b,.int .i64 c,.int .i64 n,va] 66)):=by exact Rd.byB
 have H0:=Lib.hid (H.below HB0)
 have F0:=Lib.hid (F.zone HB0 Z (fun k hk=>by rw [hZ.out] at hk;rcases hk with q | q;exact .inl q;exact .inr (by omega)) (fun k hk=>by rw [hZ.out] at hk;rcases hk with q | q;exact Nat.lt_of_lt_of_le (F.zlt k q) HB0.size;(simp;omega)))
 have nx0:¬ KX E L (P.zone Z) w.heap.size:=fun hk=>by have:=hKX _ hk;omega
 have zp:Hid (∀ k,P.Z k→Z k):=fun k hk=>by rw [hZ.out];exact .inl hk
 have hkx:=Lib.hid hKX
 have KB0:=Lib.hid (kpB (X:=KX E L P) HB0)
 clear H F hZ HB0 hKX
 obtain ⟨v,hv⟩:∃ v,Hid (top fr.stk=v):=⟨_,rfl⟩
 rw [hv.out]
 by_cases q:v.kind=3
 ·have qb:(v.kind==3)=true:=by simpa using q
  unfold kindly
  rw [if_pos q]
  by_cases q2:v.n < 0
  ·rw [if_pos q2]
   clear q
   go_enter Tryz.func66,Tryz.ntmps66
   go_wp2_with (first | (go_at_call 64;refine (take1R H0.out F0.out hn (by omega)).mono ?_;rintro e w1 ⟨vt,vs1,rfl,V1,F1,H1,K1⟩;have i0:=K1.cell (c:=w.heap.size) (o:=0) (v:=.int .i64 13) (by go_simp) nx0;have i1:=K1.cell (c:=w.heap.size) (o:=1) (v:=.int .i64 a) (by go_simp) nx0;have i2:=K1.cell (c:=w.heap.size) (o:=2) (v:=.int .i64 b) (by go_simp) nx0;have i4:=K1.cell (c:=w.heap.size) (o:=4) (v:=.int .i64 n) (by go_simp) nx0;obtain ⟨vb,vo,vcap,rfl,v1,v2,v3,v4,v5,v6⟩:=VS.one V1;rw [hv.out] at v5 v6;have vne:=vs_ne v4;have vne2:=vne.symm;have hb1:=H1.rows.base.2;have hsz1:w.heap.size < w1.heap.size:=(by have:=K1.size;simp at this;omega);have c12:=H1.c12;replace V1:=Lib.hid V1;replace F1:=Lib.hid F1;replace H1:=Lib.hid H1;replace K1:=Lib.hid (KB0.out.trans K1 (fun y hy=>.inl hy))) | (go_at_call 63;refine (mustT H1.out rfl).mono ?_;rintro e w2 ⟨rfl,rfl⟩))
   go_ret
   exact act_go rfl (by simp [on];omega) K1.out same_own H1.out (F1.out.unzone zp.out)
  ·rw [if_neg q2]
   clear q
   go_enter Tryz.func66,Tryz.ntmps66
   go_wp2_with (first | (go_at_call 64;refine (take1R H0.out F0.out hn (by omega)).mono ?_;rintro e w1 ⟨vt,vs1,rfl,V1,F1,H1,K1⟩;have i0:=K1.cell (c:=w.heap.size) (o:=0) (v:=.int .i64 13) (by go_simp) nx0;have i1:=K1.cell (c:=w.heap.size) (o:=1) (v:=.int .i64 a) (by go_simp) nx0;have i2:=K1.cell (c:=w.heap.size) (o:=2) (v:=.int .i64 b) (by go_simp) nx0;have i4:=K1.cell (c:=w.heap.size) (o:=4) (v:=.int .i64 n) (by go_simp) nx0;obtain ⟨vb,vo,vcap,rfl,v1,v2,v3,v4,v5,v6⟩:=VS.one V1;rw [hv.out] at v5 v6;have vne:=vs_ne v4;have vne2:=vne.symm;have hb1:=H1.rows.base.2;have hsz1:w.heap.size < w1.heap.size:=(by have:=K1.size;simp at this;omega);have c12:=H1.c12;replace V1:=Lib.hid V1;replace F1:=Lib.hid F1;replace H1:=Lib.hid H1;replace K1:=Lib.hid (KB0.out.trans K1 (fun y hy=>.inl hy))) | (go_at_call 63;refine (mustT H1.out rfl).mono ?_;rintro e w2 ⟨rfl,rfl⟩))
   go_ret
   exact act_go rfl (by simp [on]) K1.out same_own H1.out (F1.out.unzone zp.out)
 ·have qb:(v.kind==3)=false:=by simpa using q
  unfold kindly
  rw [if_neg q]
  clear q
  go_enter Tryz.func66,Tryz.ntmps66
  go_wp2_with (first | (go_at_call 64;refine (take1R H0.out F0.out hn (by omega)).mono ?_;rintro e w1 ⟨vt,vs1,rfl,V1,F1,H1,K1⟩;have i0:=K1.cell (c:=w.heap.size) (o:=0) (v:=.int .i64 13) (by go_simp) nx0;have i1:=K1.cell (c:=w.heap.size) (o:=1) (v:=.int .i64 a) (by go_simp) nx0;have i2:=K1.cell (c:=w.heap.size) (o:=2) (v:=.int .i64 b) (by go_simp) nx0;have i4:=K1.cell (c:=w.heap.size) (o:=4) (v:=.int .i64 n) (by go_simp) nx0;obtain ⟨vb,vo,vcap,rfl,v1,v2,v3,v4,v5,v6⟩:=VS.one V1;rw [hv.out] at v5 v6;have vne:=vs_ne v4;have vne2:=vne.symm;have hb1:=H1.rows.base.2;have hsz1:w.heap.size < w1.heap.size:=(by have:=K1.size;simp at this;omega);have c12:=H1.c12;replace V1:=Lib.hid V1;replace F1:=Lib.hid F1;replace H1:=Lib.hid H1;replace K1:=Lib.hid (KB0.out.trans K1 (fun y hy=>.inl hy))) | (go_at_call 63;refine (mustF H1.out rfl).mono ?_;rintro e w2 ⟨rfl,hw⟩;obtain ⟨HE,KE⟩:RH E w2 L h d (Sv.ends 6)∧Kp (own E L) _ w2:=(by rw [← hw];exact ended H1.out rfl 6 (Below.refl _ _));clear hw;have c12e:=HE.c12;replace HE:=Lib.hid HE;replace KE:=Lib.hid KE))
  go_ret
  exact act_stop rfl (K1.out.trans KE.out (fun _ hy=>.inl (.inl hy))) same_own HE.out
set_option maxRecDepth 100000 in
theorem do12S (H:RH E w L h d Sv.run) (F:Fr E w L P m fr vs) (hl:fr.stk.length≤500) (hat:fr.at_≤100000) (hn:fr.stk=[]) (a b c n:Int) (va:Value) :
  Calls Tryz.prog 66 #[.pointer (some ⟨E.hb,0,none⟩),.pointer (some ⟨P.cb,0,none⟩),.agg #[.int .i64 12,.int .i64 a,.int .i64 b,.int .i64 c,.int .i64 n,va]] w (ActR E L P m d fr w (.stop 6 h)):=by
 have hKX:∀ k,KX E L P k→k < w.heap.size:=fun k hk=>by
  rcases hk with hk | hk | hk
  ·exact (own_lo H.rows hk).2
  ·rw [hk];exact F.cbw
  ·rw [hk];exact F.lbw
 have HH:=Lib.hid H
 have hhb0:E.hb < w.heap.size:=H.rows.base.2
 have hhb1:E.hb < w.heap.size+1:=by omega
 have hcb0:P.cb < w.heap.size:=F.cbw
 have c10:=F.c10
 obtain ⟨Z,hZ⟩:∃ Z:Nat→Prop,Hid (Z=fun k=>P.Z k∨k=w.heap.size):=⟨_,rfl⟩
 have HB0:Below w.heap.size w (w.alloc (.cells #[.int .i64 12,.int .i64 a,.int .i64 b,.int .i64 c,.int .i64 n,va] 66)):=by exact Rd.byB
 have H0:=Lib.hid (H.below HB0)
 have F0:=Lib.hid (F.zone HB0 Z (fun k hk=>by rw [hZ.out] at hk;rcases hk with q | q;exact .inl q;exact .inr (by omega)) (fun k hk=>by rw [hZ.out] at hk;rcases hk with q | q;exact Nat.lt_of_lt_of_le (F.zlt k q) HB0.size;(simp;omega)))
 have nx0:¬ KX E L (P.zone Z) w.heap.size:=fun hk=>by have:=hKX _ hk;omega
 have zp:Hid (∀ k,P.Z k→Z k):=fun k hk=>by rw [hZ.out];exact .inl hk
 have hkx:=Lib.hid hKX
 have KB0:=Lib.hid (kpB (X:=KX E L P) HB0)
 clear H F hZ HB0 hKX
 go_enter Tryz.func66,Tryz.ntmps66
 go_wp2_with (first | (go_at_call 64;refine (take1S H0.out F0.out hn).mono ?_;rintro e w1 ⟨vt,vs1,rfl,V1,F1,H1,K1⟩;have i0:=K1.cell (c:=w.heap.size) (o:=0) (v:=.int .i64 12) (by go_simp) nx0;have i1:=K1.cell (c:=w.heap.size) (o:=1) (v:=.int .i64 a) (by go_simp) nx0;have i2:=K1.cell (c:=w.heap.size) (o:=2) (v:=.int .i64 b) (by go_simp) nx0;have i4:=K1.cell (c:=w.heap.size) (o:=4) (v:=.int .i64 n) (by go_simp) nx0;obtain ⟨vb,vo,vcap,rfl,v1,v2,v3,v4,v5,v6⟩:=VS.one V1;have vne:=vs_ne v4;have vne2:=vne.symm;have hb1:=H1.rows.base.2;have hsz1:w.heap.size < w1.heap.size:=(by have:=K1.size;simp at this;omega);have c12:=H1.c12;replace V1:=Lib.hid V1;replace F1:=Lib.hid F1;replace H1:=Lib.hid H1;replace K1:=Lib.hid (KB0.out.trans K1 (fun y hy=>.inl hy))))
 go_quiet ((go_at_call 63;exact quiet_eq (mustO (H1.out.below (below_drewN (by exact Rd.byB) _)) rfl _)))
 go_wp2
 go_ret
 exact act_stop rfl (kb K1.out (below_drewN (by exact Rd.byB) _)) same_own (H1.out.below (below_drewN (by exact Rd.byB) _))
theorem rholdsV (c a:Int) (w:World) (p:Bool) (hp:Num.holds c a=p):Calls Tryz.prog 115 #[.int .i64 c,.int .i64 a] w fun e w'=>e=.returned (.bool p)∧w=w':=by
 subst hp;exact NumW.rholds c a w
set_option maxRecDepth 100000 in
theorem do12 (H:RH E w L h d Sv.run) (F:Fr E w L P m fr vs) (hl:fr.stk.length≤500) (hat:fr.at_≤100000) (hn:fr.stk≠[]) (a b c n:Int) (va:Value) (ha:0≤a) :
  Calls Tryz.prog 66 #[.pointer (some ⟨E.hb,0,none⟩),.pointer (some ⟨P.cb,0,none⟩),.agg #[.int .i64 12,.int .i64 a,.int .i64 b,.int .i64 c,.int .i64 n,va]] w (ActR E L P m d fr w (kindly (top fr.stk) 1 h (.go (on fr fr.stk.dropLast (if Num.holds b (top fr.stk).n then a.toNat else fr.at_+1)) h))):=by
 have hKX:∀ k,KX E L P k→k < w.heap.size:=fun k hk=>by
  rcases hk with hk | hk | hk
  ·exact (own_lo H.rows hk).2
  ·rw [hk];exact F.cbw
  ·rw [hk];exact F.lbw
 have HH:=Lib.hid H
 have hhb0:E.hb < w.heap.size:=H.rows.base.2
 have hhb1:E.hb < w.heap.size+1:=by omega
 have hcb0:P.cb < w.heap.size:=F.cbw
 have c10:=F.c10
 obtain ⟨Z,hZ⟩:∃ Z:Nat→Prop,Hid (Z=fun k=>P.Z k∨k=w.heap.size):=⟨_,rfl⟩
 have HB0:Below w.heap.size w (w.alloc (.cells #[.int .i64 12,.int .i64 a,.int .i64 b,.int .i64 c,.int .i64 n,va] 66)):=by exact Rd.byB
 have H0:=Lib.hid (H.below HB0)
 have F0:=Lib.hid (F.zone HB0 Z (fun k hk=>by rw [hZ.out] at hk;rcases hk with q | q;exact .inl q;exact .inr (by omega)) (fun k hk=>by rw [hZ.out] at hk;rcases hk with q | q;exact Nat.lt_of_lt_of_le (F.zlt k q) HB0.size;(simp;omega)))
 have nx0:¬ KX E L (P.zone Z) w.heap.size:=fun hk=>by have:=hKX _ hk;omega
 have zp:Hid (∀ k,P.Z k→Z k):=fun k hk=>by rw [hZ.out];exact .inl hk
 have hkx:=Lib.hid hKX
 have KB0:=Lib.hid (kpB (X:=KX E L P) HB0)
 clear H F hZ HB0 hKX
 obtain ⟨v,hv⟩:∃ v,Hid (top fr.stk=v):=⟨_,rfl⟩
 rw [hv.out]
 by_cases q:v.kind=1
 ·have qb:(v.kind==1)=true:=by simpa using q
  unfold kindly
  rw [if_pos q]
  obtain ⟨p,hp⟩:∃ p,Hid (Num.holds b v.n=p):=⟨_,rfl⟩
  rw [hp.out]
  clear q
  cases p
  ·go_enter Tryz.func66,Tryz.ntmps66
   go_wp2_with (first | (go_at_call 64;refine (take1R H0.out F0.out hn (by omega)).mono ?_;rintro e w1 ⟨vt,vs1,rfl,V1,F1,H1,K1⟩;have i0:=K1.cell (c:=w.heap.size) (o:=0) (v:=.int .i64 12) (by go_simp) nx0;have i1:=K1.cell (c:=w.heap.size) (o:=1) (v:=.int .i64 a) (by go_simp) nx0;have i2:=K1.cell (c:=w.heap.size) (o:=2) (v:=.int .i64 b) (by go_simp) nx0;have i4:=K1.cell (c:=w.heap.size) (o:=4) (v:=.int .i64 n) (by go_simp) nx0;obtain ⟨vb,vo,vcap,rfl,v1,v2,v3,v4,v5,v6⟩:=VS.one V1;rw [hv.out] at v5 v6;have vne:=vs_ne v4;have vne2:=vne.symm;have hb1:=H1.rows.base.2;have hsz1:w.heap.size < w1.heap.size:=(by have:=K1.size;simp at this;omega);have c12:=H1.c12;replace V1:=Lib.hid V1;replace F1:=Lib.hid F1;replace H1:=Lib.hid H1;replace K1:=Lib.hid (KB0.out.trans K1 (fun y hy=>.inl hy))))
   go_quiet ((first | (go_at_call 63;exact quiet_eq (mustT (H1.out.below (below_drewN (by exact Rd.byB) _)) rfl)) | (go_at_call 115;exact quiet_eq (rholdsV _ _ _ _ hp.out))))
   go_wp2
   go_ret
   exact act_go rfl (by simp [on]) (kb K1.out (below_drewN (by exact Rd.byB) _)) same_own (H1.out.below (below_drewN (by exact Rd.byB) _)) ((F1.out.below (below_drewN (by exact Rd.byB) _)).unzone zp.out)
  ·go_enter Tryz.func66,Tryz.ntmps66
   go_wp2_with (first | (go_at_call 64;refine (take1R H0.out F0.out hn (by omega)).mono ?_;rintro e w1 ⟨vt,vs1,rfl,V1,F1,H1,K1⟩;have i0:=K1.cell (c:=w.heap.size) (o:=0) (v:=.int .i64 12) (by go_simp) nx0;have i1:=K1.cell (c:=w.heap.size) (o:=1) (v:=.int .i64 a) (by go_simp) nx0;have i2:=K1.cell (c:=w.heap.size) (o:=2) (v:=.int .i64 b) (by go_simp) nx0;have i4:=K1.cell (c:=w.heap.size) (o:=4) (v:=.int .i64 n) (by go_simp) nx0;obtain ⟨vb,vo,vcap,rfl,v1,v2,v3,v4,v5,v6⟩:=VS.one V1;rw [hv.out] at v5 v6;have vne:=vs_ne v4;have vne2:=vne.symm;have hb1:=H1.rows.base.2;have hsz1:w.heap.size < w1.heap.size:=(by have:=K1.size;simp at this;omega);have c12:=H1.c12;replace V1:=Lib.hid V1;replace F1:=Lib.hid F1;replace H1:=Lib.hid H1;replace K1:=Lib.hid (KB0.out.trans K1 (fun y hy=>.inl hy))))
   go_quiet ((first | (go_at_call 63;exact quiet_eq (mustT (H1.out.below (below_drewN (by exact Rd.byB) _)) rfl)) | (go_at_call 115;exact quiet_eq (rholdsV _ _ _ _ hp.out))))
   go_wp2
   go_ret
   exact act_go rfl (by simp [on];omega) (kb K1.out (below_drewN (by exact Rd.byB) _)) same_own (H1.out.below (below_drewN (by exact Rd.byB) _)) ((F1.out.below (below_drewN (by exact Rd.byB) _)).unzone zp.out)
 ·have qb:(v.kind==1)=false:=by simpa using q
  unfold kindly
  rw [if_neg q]
  clear q
  go_enter Tryz.func66,Tryz.ntmps66
  go_wp2_with (first | (go_at_call 64;refine (take1R H0.out F0.out hn (by omega)).mono ?_;rintro e w1 ⟨vt,vs1,rfl,V1,F1,H1,K1⟩;have i0:=K1.cell (c:=w.heap.size) (o:=0) (v:=.int .i64 12) (by go_simp) nx0;have i1:=K1.cell (c:=w.heap.size) (o:=1) (v:=.int .i64 a) (by go_simp) nx0;have i2:=K1.cell (c:=w.heap.size) (o:=2) (v:=.int .i64 b) (by go_simp) nx0;have i4:=K1.cell (c:=w.heap.size) (o:=4) (v:=.int .i64 n) (by go_simp) nx0;obtain ⟨vb,vo,vcap,rfl,v1,v2,v3,v4,v5,v6⟩:=VS.one V1;rw [hv.out] at v5 v6;have vne:=vs_ne v4;have vne2:=vne.symm;have hb1:=H1.rows.base.2;have hsz1:w.heap.size < w1.heap.size:=(by have:=K1.size;simp at this;omega);have c12:=H1.c12;replace V1:=Lib.hid V1;replace F1:=Lib.hid F1;replace H1:=Lib.hid H1;replace K1:=Lib.hid (KB0.out.trans K1 (fun y hy=>.inl hy))))
  refine Drawn.hd (fun w'=>w'.cell? ⟨vb,vo,none⟩=some (.int .i64 v.kind)) (h:=fun hHeld=>?_)
  refine Drawn.T 0 (some 36) (h:=?_)
  refine Drawn.T 1 (some 37) (h:=?_)
  refine Drawn.T 2 (some 38) (h:=?_)
  refine Drawn.T 3 (some 39) (h:=?_)
  refine Drawn.T 4 (some 40) (h:=?_)
  refine Drawn.T 5 (some 41) (h:=?_)
  refine Drawn.cl 6 (fun K hK=>?_)
  go_simp
  go_at_call 63
  refine (mustF (H1.out.below (w':=w1.drew) (by exact Rd.byB)) rfl).mono ?_
  rintro e w2 ⟨rfl,hw⟩
  obtain ⟨HE,KE⟩:RH E w2 L h d (Sv.ends 6)∧Kp (own E L) w1.drew w2:=by rw [← hw];exact ended (H1.out.below (w':=w1.drew) (by exact Rd.byB)) rfl 6 (Below.refl _ _)
  clear hw
  have v5e:=KE.cell (w:=w1.drew) (by exact v5) (fun hk=>v4 (.inl (.inl hk)))
  replace HE:=Lib.hid HE
  replace KE:=Lib.hid KE
  go_wp2_with fail
  refine Drawn.bk hK (hS:=by (try dsimp only);exact v5e) (h:=fun hHeld=>?_)
  clear hK K
  refine Drawn.T 7 (some 43) (h:=?_)
  refine Drawn.ps 8 (some 44) rfl rfl (by assumption) ?_
  try simp only [Act.put,Drawn.La,Drawn.Lb,Drawn.Lc]
  refine Drawn.ps 9 (some 45) rfl rfl (by assumption) ?_
  try simp only [Act.put,Drawn.La,Drawn.Lb,Drawn.Lc]
  refine Drawn.ps 10 (some 46) rfl rfl (by assumption) ?_
  try simp only [Act.put,Drawn.La,Drawn.Lb,Drawn.Lc]
  refine Drawn.ps 11 (some 47) rfl rfl (by assumption) ?_
  try simp only [Act.put,Drawn.La,Drawn.Lb,Drawn.Lc]
  refine Drawn.ps 12 (some 48) rfl rfl (by assumption) ?_
  try simp only [Act.put,Drawn.La,Drawn.Lb,Drawn.Lc]
  refine Drawn.ps 13 (some 49) rfl rfl (by assumption) ?_
  try simp only [Act.put,Drawn.La,Drawn.Lb,Drawn.Lc]
  refine Drawn.ps 14 (some 50) rfl rfl (by assumption) ?_
  try simp only [Act.put,Drawn.La,Drawn.Lb,Drawn.Lc]
  refine Drawn.T 15 (some 51) (h:=?_)
  refine wpAnyH_done (by kernel_rfl) ?_ _
  go_wp2
  go_ret
  exact act_stop rfl ((kb K1.out (w2:=w1.drew) (by exact Rd.byB)).trans KE.out (fun _ hy=>.inl (.inl hy))) same_own HE.out
set_option maxRecDepth 100000 in
theorem do22S (H:RH E w L h d Sv.run) (F:Fr E w L P m fr vs) (hl:fr.stk.length≤500) (hat:fr.at_≤100000) (hn:fr.stk=[]) (a b c n:Int) (va:Value) :
  Calls Tryz.prog 66 #[.pointer (some ⟨E.hb,0,none⟩),.pointer (some ⟨P.cb,0,none⟩),.agg #[.int .i64 22,.int .i64 a,.int .i64 b,.int .i64 c,.int .i64 n,va]] w (ActR E L P m d fr w (.stop 6 h)):=by
 have hKX:∀ k,KX E L P k→k < w.heap.size:=fun k hk=>by
  rcases hk with hk | hk | hk
  ·exact (own_lo H.rows hk).2
  ·rw [hk];exact F.cbw
  ·rw [hk];exact F.lbw
 have HH:=Lib.hid H
 have hhb0:E.hb < w.heap.size:=H.rows.base.2
 have hhb1:E.hb < w.heap.size+1:=by omega
 have hcb0:P.cb < w.heap.size:=F.cbw
 have c10:=F.c10
 obtain ⟨Z,hZ⟩:∃ Z:Nat→Prop,Hid (Z=fun k=>P.Z k∨k=w.heap.size):=⟨_,rfl⟩
 have HB0:Below w.heap.size w (w.alloc (.cells #[.int .i64 22,.int .i64 a,.int .i64 b,.int .i64 c,.int .i64 n,va] 66)):=by exact Rd.byB
 have H0:=Lib.hid (H.below HB0)
 have F0:=Lib.hid (F.zone HB0 Z (fun k hk=>by rw [hZ.out] at hk;rcases hk with q | q;exact .inl q;exact .inr (by omega)) (fun k hk=>by rw [hZ.out] at hk;rcases hk with q | q;exact Nat.lt_of_lt_of_le (F.zlt k q) HB0.size;(simp;omega)))
 have nx0:¬ KX E L (P.zone Z) w.heap.size:=fun hk=>by have:=hKX _ hk;omega
 have zp:Hid (∀ k,P.Z k→Z k):=fun k hk=>by rw [hZ.out];exact .inl hk
 have hkx:=Lib.hid hKX
 have KB0:=Lib.hid (kpB (X:=KX E L P) HB0)
 clear H F hZ HB0 hKX
 go_enter Tryz.func66,Tryz.ntmps66
 go_wp2_with (go_at_call 64;refine (take1S H0.out F0.out hn).mono ?_;rintro e w1 ⟨vt,vs1,rfl,V1,F1,H1,K1⟩;have i0:=K1.cell (c:=w.heap.size) (o:=0) (v:=.int .i64 22) (by go_simp) nx0;have i1:=K1.cell (c:=w.heap.size) (o:=1) (v:=.int .i64 a) (by go_simp) nx0;have i2:=K1.cell (c:=w.heap.size) (o:=2) (v:=.int .i64 b) (by go_simp) nx0;have i4:=K1.cell (c:=w.heap.size) (o:=4) (v:=.int .i64 n) (by go_simp) nx0;have hb1:=H1.rows.base.2;have hsz1:w.heap.size < w1.heap.size:=(by have:=K1.size;simp at this;omega);have c12:=H1.c12;replace V1:=Lib.hid V1;replace F1:=Lib.hid F1;replace H1:=Lib.hid H1;replace K1:=Lib.hid (KB0.out.trans K1 (fun y hy=>.inl hy)))
 go_ret
 exact act_stop rfl K1.out same_own H1.out
set_option maxRecDepth 100000 in
theorem do22 (H:RH E w L h d Sv.run) (F:Fr E w L P m fr vs) (hl:fr.stk.length≤500) (hat:fr.at_≤100000) (hn:fr.stk≠[]) (a b c n:Int) (va:Value) :
  Calls Tryz.prog 66 #[.pointer (some ⟨E.hb,0,none⟩),.pointer (some ⟨P.cb,0,none⟩),.agg #[.int .i64 22,.int .i64 a,.int .i64 b,.int .i64 c,.int .i64 n,va]] w (ActR E L P m d fr w (.go (on fr fr.stk.dropLast (fr.at_+1)) h)):=by
 have hKX:∀ k,KX E L P k→k < w.heap.size:=fun k hk=>by
  rcases hk with hk | hk | hk
  ·exact (own_lo H.rows hk).2
  ·rw [hk];exact F.cbw
  ·rw [hk];exact F.lbw
 have HH:=Lib.hid H
 have hhb0:E.hb < w.heap.size:=H.rows.base.2
 have hhb1:E.hb < w.heap.size+1:=by omega
 have hcb0:P.cb < w.heap.size:=F.cbw
 have c10:=F.c10
 obtain ⟨Z,hZ⟩:∃ Z:Nat→Prop,Hid (Z=fun k=>P.Z k∨k=w.heap.size):=⟨_,rfl⟩
 have HB0:Below w.heap.size w (w.alloc (.cells #[.int .i64 22,.int .i64 a,.int .i64 b,.int .i64 c,.int .i64 n,va] 66)):=by exact Rd.byB
 have H0:=Lib.hid (H.below HB0)
 have F0:=Lib.hid (F.zone HB0 Z (fun k hk=>by rw [hZ.out] at hk;rcases hk with q | q;exact .inl q;exact .inr (by omega)) (fun k hk=>by rw [hZ.out] at hk;rcases hk with q | q;exact Nat.lt_of_lt_of_le (F.zlt k q) HB0.size;(simp;omega)))
 have nx0:¬ KX E L (P.zone Z) w.heap.size:=fun hk=>by have:=hKX _ hk;omega
 have zp:Hid (∀ k,P.Z k→Z k):=fun k hk=>by rw [hZ.out];exact .inl hk
 have hkx:=Lib.hid hKX
 have KB0:=Lib.hid (kpB (X:=KX E L P) HB0)
 clear H F hZ HB0 hKX
 go_enter Tryz.func66,Tryz.ntmps66
 go_wp2_with (go_at_call 64;refine (take1R H0.out F0.out hn (by omega)).mono ?_;rintro e w1 ⟨vt,vs1,rfl,V1,F1,H1,K1⟩;have i0:=K1.cell (c:=w.heap.size) (o:=0) (v:=.int .i64 22) (by go_simp) nx0;have i1:=K1.cell (c:=w.heap.size) (o:=1) (v:=.int .i64 a) (by go_simp) nx0;have i2:=K1.cell (c:=w.heap.size) (o:=2) (v:=.int .i64 b) (by go_simp) nx0;have i4:=K1.cell (c:=w.heap.size) (o:=4) (v:=.int .i64 n) (by go_simp) nx0;have hb1:=H1.rows.base.2;have hsz1:w.heap.size < w1.heap.size:=(by have:=K1.size;simp at this;omega);have c12:=H1.c12;replace V1:=Lib.hid V1;replace F1:=Lib.hid F1;replace H1:=Lib.hid H1;replace K1:=Lib.hid (KB0.out.trans K1 (fun y hy=>.inl hy)))
 go_ret
 exact act_go rfl (by simp [on]) K1.out same_own H1.out (F1.out.unzone zp.out)
end
end Rhw
namespace Rhw
open Num Rd D Run Mem HierW Hpw
section
variable {E:Ev}{w w' w2:World}{L L' L2:RL}{h h':Hp}{d:Nat}{s:Sv}{P:Pl}{m:Me}{fr fr':Sf}{vs vs2:Value}
theorem act_ru {n:Int}{r:Res Unit}{w1:World}{Z:Nat→Prop}{st:List Vl}(hsz:w.heap.size≤w1.heap.size) (K:Kp (KX E L P) w w1) (zp:∀ k,P.Z k→Z k) (F:Fr E w1 L (P.zone Z) m ⟨fr.loc,st,fr.at_⟩ vs2) (hn:n=(fr.at_+1:Nat)) (R:match r with
  | .ok a h'=>RL2 E L d w1 w2 h' Sv.run
  | .thrown o h'=>RL2 E L d w1 w2 h' (Sv.thr o)
  | .stop c h'=>RL2 E L d w1 w2 h' (Sv.ends c)):ActR E L P m d fr w (r.act fun _ h=>.go (on fr st (fr.at_+1)) h) (.returned (.int .i64 n)) w2:=by
 cases r with
 | ok a h' =>
  obtain ⟨L2,K2,N2,H2⟩:=R
  exact act_go rfl hn (K.trans K2 (fun _ hy=>.inl (.inl hy))) (fun k hk=>(N2 k hk).imp_right (fun q=>by omega)) H2 ((F.heap K2 N2).unzone zp)
 | thrown o h' =>
  obtain ⟨L2,K2,N2,H2⟩:=R
  exact act_thr rfl (K.trans K2 (fun _ hy=>.inl (.inl hy))) (fun k hk=>(N2 k hk).imp_right (fun q=>by omega)) H2 ((F.heap K2 N2).unzone zp)
 | stop c h' =>
  obtain ⟨L2,K2,N2,H2⟩:=R
  exact act_stop rfl (K.trans K2 (fun _ hy=>.inl (.inl hy))) (fun k hk=>(N2 k hk).imp_right (fun q=>by omega)) H2
theorem act_thrw {n:Int}{v:Vl}{l:List Cls}{w1:World}{Z:Nat→Prop}{st:List Vl}(hsz:w.heap.size≤w1.heap.size) (K:Kp (KX E L P) w w1) (zp:∀ k,P.Z k→Z k) (F:Fr E w1 L (P.zone Z) m ⟨fr.loc,st,fr.at_⟩ vs2) (R:match (Run.throw l v h:Res Unit) with
  | .ok a h'=>RL2 E L d w1 w2 h' Sv.run
  | .thrown o h'=>RL2 E L d w1 w2 h' (Sv.thr o)
  | .stop c h'=>RL2 E L d w1 w2 h' (Sv.ends c)):ActR E L P m d fr w ((Run.throw l v h).act fun (_:Unit) h=>.stop 6 h) (.returned (.int .i64 n)) w2:=by
 have no:∀ a h',(Run.throw l v h:Res Unit)≠.ok a h':=by
  intro a h' e
  unfold Run.throw at e
  split at e
  ·cases e
  ·split at e
   ·unfold raise Run.new at e
    split at e <;> cases e
   ·cases e
 generalize (Run.throw l v h:Res Unit)=r at *
 cases r with
 | ok a h'=>exact absurd rfl (no a h')
 | thrown o h' =>
  obtain ⟨L2,K2,N2,H2⟩:=R
  exact act_thr rfl (K.trans K2 (fun _ hy=>.inl (.inl hy))) (fun k hk=>(N2 k hk).imp_right (fun q=>by omega)) H2 ((F.heap K2 N2).unzone zp)
 | stop c h' =>
  obtain ⟨L2,K2,N2,H2⟩:=R
  exact act_stop rfl (K.trans K2 (fun _ hy=>.inl (.inl hy))) (fun k hk=>(N2 k hk).imp_right (fun q=>by omega)) H2
set_option maxRecDepth 100000 in
theorem do21S (H:RH E w L h d Sv.run) (F:Fr E w L P m fr vs) (hl:fr.stk.length≤500) (hat:fr.at_≤100000) (hn:fr.stk=[]) (a b c n:Int) (va:Value) :
  Calls Tryz.prog 66 #[.pointer (some ⟨E.hb,0,none⟩),.pointer (some ⟨P.cb,0,none⟩),.agg #[.int .i64 21,.int .i64 a,.int .i64 b,.int .i64 c,.int .i64 n,va]] w (ActR E L P m d fr w (.stop 6 h)):=by
 have hKX:∀ k,KX E L P k→k < w.heap.size:=fun k hk=>by
  rcases hk with hk | hk | hk
  ·exact (own_lo H.rows hk).2
  ·rw [hk];exact F.cbw
  ·rw [hk];exact F.lbw
 have HH:=Lib.hid H
 have hhb0:E.hb < w.heap.size:=H.rows.base.2
 have hhb1:E.hb < w.heap.size+1:=by omega
 have hcb0:P.cb < w.heap.size:=F.cbw
 have c10:=F.c10
 obtain ⟨Z,hZ⟩:∃ Z:Nat→Prop,Hid (Z=fun k=>P.Z k∨k=w.heap.size):=⟨_,rfl⟩
 have HB0:Below w.heap.size w (w.alloc (.cells #[.int .i64 21,.int .i64 a,.int .i64 b,.int .i64 c,.int .i64 n,va] 66)):=by exact Rd.byB
 have H0:=Lib.hid (H.below HB0)
 have F0:=Lib.hid (F.zone HB0 Z (fun k hk=>by rw [hZ.out] at hk;rcases hk with q | q;exact .inl q;exact .inr (by omega)) (fun k hk=>by rw [hZ.out] at hk;rcases hk with q | q;exact Nat.lt_of_lt_of_le (F.zlt k q) HB0.size;(simp;omega)))
 have nx0:¬ KX E L (P.zone Z) w.heap.size:=fun hk=>by have:=hKX _ hk;omega
 have zp:Hid (∀ k,P.Z k→Z k):=fun k hk=>by rw [hZ.out];exact .inl hk
 have hkx:=Lib.hid hKX
 have KB0:=Lib.hid (kpB (X:=KX E L P) HB0)
 clear H F hZ HB0 hKX
 go_enter Tryz.func66,Tryz.ntmps66
 go_wp2_with (go_at_call 64;refine (take1S H0.out F0.out hn).mono ?_;rintro e w1 ⟨vt,vs1,rfl,V1,F1,H1,K1⟩;have i0:=K1.cell (c:=w.heap.size) (o:=0) (v:=.int .i64 21) (by go_simp) nx0;have i1:=K1.cell (c:=w.heap.size) (o:=1) (v:=.int .i64 a) (by go_simp) nx0;have i2:=K1.cell (c:=w.heap.size) (o:=2) (v:=.int .i64 b) (by go_simp) nx0;have i4:=K1.cell (c:=w.heap.size) (o:=4) (v:=.int .i64 n) (by go_simp) nx0;have hb1:=H1.rows.base.2;have hsz1:w.heap.size < w1.heap.size:=(by have:=K1.size;simp at this;omega);have c12:=H1.c12;replace V1:=Lib.hid V1;replace F1:=Lib.hid F1;replace H1:=Lib.hid H1;replace K1:=Lib.hid (KB0.out.trans K1 (fun y hy=>.inl hy)))
 go_ret
 exact act_stop rfl K1.out same_own H1.out
set_option maxRecDepth 100000 in
theorem do21 (H:RH E w L h d Sv.run) (F:Fr E w L P m fr vs) (hl:fr.stk.length≤500) (hat:fr.at_≤100000) (hm:Hier.may E.f.classes=true) (hn:fr.stk≠[]) (a b c n:Int) (va:Value) :
  Calls Tryz.prog 66 #[.pointer (some ⟨E.hb,0,none⟩),.pointer (some ⟨P.cb,0,none⟩),.agg #[.int .i64 21,.int .i64 a,.int .i64 b,.int .i64 c,.int .i64 n,va]] w (ActR E L P m d fr w ((Run.throw E.f.classes (top fr.stk) h).act fun (_:Unit) h=>.stop 6 h)):=by
 have hKX:∀ k,KX E L P k→k < w.heap.size:=fun k hk=>by
  rcases hk with hk | hk | hk
  ·exact (own_lo H.rows hk).2
  ·rw [hk];exact F.cbw
  ·rw [hk];exact F.lbw
 have HH:=Lib.hid H
 have hhb0:E.hb < w.heap.size:=H.rows.base.2
 have hhb1:E.hb < w.heap.size+1:=by omega
 have hcb0:P.cb < w.heap.size:=F.cbw
 have c10:=F.c10
 obtain ⟨Z,hZ⟩:∃ Z:Nat→Prop,Hid (Z=fun k=>P.Z k∨k=w.heap.size):=⟨_,rfl⟩
 have HB0:Below w.heap.size w (w.alloc (.cells #[.int .i64 21,.int .i64 a,.int .i64 b,.int .i64 c,.int .i64 n,va] 66)):=by exact Rd.byB
 have H0:=Lib.hid (H.below HB0)
 have F0:=Lib.hid (F.zone HB0 Z (fun k hk=>by rw [hZ.out] at hk;rcases hk with q | q;exact .inl q;exact .inr (by omega)) (fun k hk=>by rw [hZ.out] at hk;rcases hk with q | q;exact Nat.lt_of_lt_of_le (F.zlt k q) HB0.size;(simp;omega)))
 have nx0:¬ KX E L (P.zone Z) w.heap.size:=fun hk=>by have:=hKX _ hk;omega
 have zp:Hid (∀ k,P.Z k→Z k):=fun k hk=>by rw [hZ.out];exact .inl hk
 have hkx:=Lib.hid hKX
 have KB0:=Lib.hid (kpB (X:=KX E L P) HB0)
 clear H F hZ HB0 hKX
 obtain ⟨v,hv⟩:∃ v,Hid (top fr.stk=v):=⟨_,rfl⟩
 rw [hv.out]
 go_enter Tryz.func66,Tryz.ntmps66
 go_wp2_with (first | (go_at_call 64;refine (take1R H0.out F0.out hn (by omega)).mono ?_;rintro e w1 ⟨vt,vs1,rfl,V1,F1,H1,K1⟩;have i0:=K1.cell (c:=w.heap.size) (o:=0) (v:=.int .i64 21) (by go_simp) nx0;have i1:=K1.cell (c:=w.heap.size) (o:=1) (v:=.int .i64 a) (by go_simp) nx0;have i2:=K1.cell (c:=w.heap.size) (o:=2) (v:=.int .i64 b) (by go_simp) nx0;have i4:=K1.cell (c:=w.heap.size) (o:=4) (v:=.int .i64 n) (by go_simp) nx0;obtain ⟨vb,vo,vcap,rfl,v1,v2,v3,v4,v5,v6⟩:=VS.one V1;rw [hv.out] at v5 v6;have vne:=vs_ne v4;have vne2:=vne.symm;have hb1:=H1.rows.base.2;have hsz1:w.heap.size < w1.heap.size:=(by have:=K1.size;simp at this;omega);have c12:=H1.c12;replace V1:=Lib.hid V1;replace F1:=Lib.hid F1;replace H1:=Lib.hid H1;replace K1:=Lib.hid (KB0.out.trans K1 (fun y hy=>.inl hy))) | (go_at_call 117;refine (throwR H1.out hm v).mono ?_;rintro e w2 ⟨rfl,R2⟩;have KK:=rru_kp R2;replace R2:=Lib.hid R2;replace KK:=Lib.hid KK))
 go_ret
 exact act_thrw (by omega) K1.out zp.out F1.out R2.out
set_option maxRecDepth 100000 in
theorem do24S (H:RH E w L h d Sv.run) (F:Fr E w L P m fr vs) (hl:fr.stk.length≤500) (hat:fr.at_≤100000) (hn:fr.stk=[]) (a b c n:Int) (va:Value) :
  Calls Tryz.prog 66 #[.pointer (some ⟨E.hb,0,none⟩),.pointer (some ⟨P.cb,0,none⟩),.agg #[.int .i64 24,.int .i64 a,.int .i64 b,.int .i64 c,.int .i64 n,va]] w (ActR E L P m d fr w (.stop 6 h)):=by
 have hKX:∀ k,KX E L P k→k < w.heap.size:=fun k hk=>by
  rcases hk with hk | hk | hk
  ·exact (own_lo H.rows hk).2
  ·rw [hk];exact F.cbw
  ·rw [hk];exact F.lbw
 have HH:=Lib.hid H
 have hhb0:E.hb < w.heap.size:=H.rows.base.2
 have hhb1:E.hb < w.heap.size+1:=by omega
 have hcb0:P.cb < w.heap.size:=F.cbw
 have c10:=F.c10
 obtain ⟨Z,hZ⟩:∃ Z:Nat→Prop,Hid (Z=fun k=>P.Z k∨k=w.heap.size):=⟨_,rfl⟩
 have HB0:Below w.heap.size w (w.alloc (.cells #[.int .i64 24,.int .i64 a,.int .i64 b,.int .i64 c,.int .i64 n,va] 66)):=by exact Rd.byB
 have H0:=Lib.hid (H.below HB0)
 have F0:=Lib.hid (F.zone HB0 Z (fun k hk=>by rw [hZ.out] at hk;rcases hk with q | q;exact .inl q;exact .inr (by omega)) (fun k hk=>by rw [hZ.out] at hk;rcases hk with q | q;exact Nat.lt_of_lt_of_le (F.zlt k q) HB0.size;(simp;omega)))
 have nx0:¬ KX E L (P.zone Z) w.heap.size:=fun hk=>by have:=hKX _ hk;omega
 have zp:Hid (∀ k,P.Z k→Z k):=fun k hk=>by rw [hZ.out];exact .inl hk
 have hkx:=Lib.hid hKX
 have KB0:=Lib.hid (kpB (X:=KX E L P) HB0)
 clear H F hZ HB0 hKX
 go_enter Tryz.func66,Tryz.ntmps66
 go_wp2_with (go_at_call 64;refine (take1S H0.out F0.out hn).mono ?_;rintro e w1 ⟨vt,vs1,rfl,V1,F1,H1,K1⟩;have i0:=K1.cell (c:=w.heap.size) (o:=0) (v:=.int .i64 24) (by go_simp) nx0;have i1:=K1.cell (c:=w.heap.size) (o:=1) (v:=.int .i64 a) (by go_simp) nx0;have i2:=K1.cell (c:=w.heap.size) (o:=2) (v:=.int .i64 b) (by go_simp) nx0;have i4:=K1.cell (c:=w.heap.size) (o:=4) (v:=.int .i64 n) (by go_simp) nx0;have hb1:=H1.rows.base.2;have hsz1:w.heap.size < w1.heap.size:=(by have:=K1.size;simp at this;omega);have c12:=H1.c12;replace V1:=Lib.hid V1;replace F1:=Lib.hid F1;replace H1:=Lib.hid H1;replace K1:=Lib.hid (KB0.out.trans K1 (fun y hy=>.inl hy)))
 go_ret
 exact act_stop rfl K1.out same_own H1.out
set_option maxRecDepth 100000 in
theorem do24 (H:RH E w L h d Sv.run) (F:Fr E w L P m fr vs) (hl:fr.stk.length≤500) (hat:fr.at_≤100000) (hout:h.out.length≤60000) (hn:fr.stk≠[]) (a b c n:Int) (va:Value) :
  Calls Tryz.prog 66 #[.pointer (some ⟨E.hb,0,none⟩),.pointer (some ⟨P.cb,0,none⟩),.agg #[.int .i64 24,.int .i64 a,.int .i64 b,.int .i64 c,.int .i64 n,va]] w (ActR E L P m d fr w ((Run.emit (top fr.stk) a h).act fun _ h=>.go (on fr fr.stk.dropLast (fr.at_+1)) h)):=by
 have hKX:∀ k,KX E L P k→k < w.heap.size:=fun k hk=>by
  rcases hk with hk | hk | hk
  ·exact (own_lo H.rows hk).2
  ·rw [hk];exact F.cbw
  ·rw [hk];exact F.lbw
 have HH:=Lib.hid H
 have hhb0:E.hb < w.heap.size:=H.rows.base.2
 have hhb1:E.hb < w.heap.size+1:=by omega
 have hcb0:P.cb < w.heap.size:=F.cbw
 have c10:=F.c10
 obtain ⟨Z,hZ⟩:∃ Z:Nat→Prop,Hid (Z=fun k=>P.Z k∨k=w.heap.size):=⟨_,rfl⟩
 have HB0:Below w.heap.size w (w.alloc (.cells #[.int .i64 24,.int .i64 a,.int .i64 b,.int .i64 c,.int .i64 n,va] 66)):=by exact Rd.byB
 have H0:=Lib.hid (H.below HB0)
 have F0:=Lib.hid (F.zone HB0 Z (fun k hk=>by rw [hZ.out] at hk;rcases hk with q | q;exact .inl q;exact .inr (by omega)) (fun k hk=>by rw [hZ.out] at hk;rcases hk with q | q;exact Nat.lt_of_lt_of_le (F.zlt k q) HB0.size;(simp;omega)))
 have nx0:¬ KX E L (P.zone Z) w.heap.size:=fun hk=>by have:=hKX _ hk;omega
 have zp:Hid (∀ k,P.Z k→Z k):=fun k hk=>by rw [hZ.out];exact .inl hk
 have hkx:=Lib.hid hKX
 have KB0:=Lib.hid (kpB (X:=KX E L P) HB0)
 clear H F hZ HB0 hKX
 obtain ⟨v,hv⟩:∃ v,Hid (top fr.stk=v):=⟨_,rfl⟩
 rw [hv.out]
 go_enter Tryz.func66,Tryz.ntmps66
 go_wp2_with (go_at_call 64;refine (take1R H0.out F0.out hn (by omega)).mono ?_;rintro e w1 ⟨vt,vs1,rfl,V1,F1,H1,K1⟩;have i0:=K1.cell (c:=w.heap.size) (o:=0) (v:=.int .i64 24) (by go_simp) nx0;have i1:=K1.cell (c:=w.heap.size) (o:=1) (v:=.int .i64 a) (by go_simp) nx0;have i2:=K1.cell (c:=w.heap.size) (o:=2) (v:=.int .i64 b) (by go_simp) nx0;have i4:=K1.cell (c:=w.heap.size) (o:=4) (v:=.int .i64 n) (by go_simp) nx0;obtain ⟨vb,vo,vcap,rfl,v1,v2,v3,v4,v5,v6⟩:=VS.one V1;rw [hv.out] at v5 v6;have vne:=vs_ne v4;have vne2:=vne.symm;have hb1:=H1.rows.base.2;have hsz1:w.heap.size < w1.heap.size:=(by have:=K1.size;simp at this;omega);have c12:=H1.c12;replace V1:=Lib.hid V1;replace F1:=Lib.hid F1;replace H1:=Lib.hid H1;replace K1:=Lib.hid (KB0.out.trans K1 (fun y hy=>.inl hy)))
 go_still_tail 6,(by kernel_rfl)
 go_wp2_with (go_at_call 118;refine (emitR (H1.out.below (w':=w1.drew) (by exact Rd.byB)) v a hout).mono ?_;rintro e w2 ⟨rfl,R2⟩;have KK:=rru_kp R2;replace R2:=Lib.hid R2;replace KK:=Lib.hid KK)
 go_ret
 exact act_ru (by simp;omega) (kb K1.out (by exact Rd.byB)) zp.out (F1.out.below (by exact Rd.byB)) (by simp) R2.out
end
end Rhw
namespace Rhw
open Num Rd D Run Mem HierW Hpw
section
variable {E:Ev}{w w' w2:World}{L L' L2:RL}{h h':Hp}{d:Nat}{s:Sv}{P:Pl}{m:Me}{fr fr':Sf}{vs vs2:Value}
set_option maxRecDepth 100000 in
theorem do5S (H:RH E w L h d Sv.run) (F:Fr E w L P m fr vs) (hl:fr.stk.length≤500) (hat:fr.at_≤100000) (hn:fr.stk=[]) (a b c n:Int) (va:Value) :
  Calls Tryz.prog 66 #[.pointer (some ⟨E.hb,0,none⟩),.pointer (some ⟨P.cb,0,none⟩),.agg #[.int .i64 5,.int .i64 a,.int .i64 b,.int .i64 c,.int .i64 n,va]] w (ActR E L P m d fr w (.stop 6 h)):=by
 have hKX:∀ k,KX E L P k→k < w.heap.size:=fun k hk=>by
  rcases hk with hk | hk | hk
  ·exact (own_lo H.rows hk).2
  ·rw [hk];exact F.cbw
  ·rw [hk];exact F.lbw
 have HH:=Lib.hid H
 have hhb0:E.hb < w.heap.size:=H.rows.base.2
 have hhb1:E.hb < w.heap.size+1:=by omega
 have hcb0:P.cb < w.heap.size:=F.cbw
 have c10:=F.c10
 obtain ⟨Z,hZ⟩:∃ Z:Nat→Prop,Hid (Z=fun k=>P.Z k∨k=w.heap.size):=⟨_,rfl⟩
 have HB0:Below w.heap.size w (w.alloc (.cells #[.int .i64 5,.int .i64 a,.int .i64 b,.int .i64 c,.int .i64 n,va] 66)):=by exact Rd.byB
 have H0:=Lib.hid (H.below HB0)
 have F0:=Lib.hid (F.zone HB0 Z (fun k hk=>by rw [hZ.out] at hk;rcases hk with q | q;exact .inl q;exact .inr (by omega)) (fun k hk=>by rw [hZ.out] at hk;rcases hk with q | q;exact Nat.lt_of_lt_of_le (F.zlt k q) HB0.size;(simp;omega)))
 have nx0:¬ KX E L (P.zone Z) w.heap.size:=fun hk=>by have:=hKX _ hk;omega
 have zp:Hid (∀ k,P.Z k→Z k):=fun k hk=>by rw [hZ.out];exact .inl hk
 have hkx:=Lib.hid hKX
 have KB0:=Lib.hid (kpB (X:=KX E L P) HB0)
 clear H F hZ HB0 hKX
 go_enter Tryz.func66,Tryz.ntmps66
 go_wp2_with (go_at_call 64;refine (take1S H0.out F0.out hn).mono ?_;rintro e w1 ⟨vt,vs1,rfl,V1,F1,H1,K1⟩;have i0:=K1.cell (c:=w.heap.size) (o:=0) (v:=.int .i64 5) (by go_simp) nx0;have i1:=K1.cell (c:=w.heap.size) (o:=1) (v:=.int .i64 a) (by go_simp) nx0;have i2:=K1.cell (c:=w.heap.size) (o:=2) (v:=.int .i64 b) (by go_simp) nx0;have i4:=K1.cell (c:=w.heap.size) (o:=4) (v:=.int .i64 n) (by go_simp) nx0;obtain ⟨vb,vo,vcap,rfl,v1,v2,v3,v4,v5,v6⟩:=VS.one V1;have vne:=vs_ne v4;have vne2:=vne.symm;have hb1:=H1.rows.base.2;have hsz1:w.heap.size < w1.heap.size:=(by have:=K1.size;simp at this;omega);have c12:=H1.c12;replace V1:=Lib.hid V1;replace F1:=Lib.hid F1;replace H1:=Lib.hid H1;replace K1:=Lib.hid (KB0.out.trans K1 (fun y hy=>.inl hy)))
 go_still_tail 8,(by kernel_rfl)
 go_wp2_with (go_at_call 63;refine (mustO (H1.out.below (w':=w1.drew) (by exact Rd.byB)) rfl _).mono ?_;rintro e w2 ⟨rfl,rfl⟩)
 go_ret
 exact act_stop rfl (kb K1.out (by exact Rd.byB)) same_own (H1.out.below (by exact Rd.byB))
set_option maxRecDepth 100000 in
theorem do5 (H:RH E w L h d Sv.run) (F:Fr E w L P m fr vs) (hl:fr.stk.length≤500) (hat:fr.at_≤100000) (hn:fr.stk≠[]) (a b c n:Int) (va:Value) (ha:0≤a) (hst:(top fr.stk).kind=b→a.toNat+width (top fr.stk)≤fr.loc.length) (hpair:Paired fr.loc) (h1000:fr.loc.length≤1000) :
  Calls Tryz.prog 66 #[.pointer (some ⟨E.hb,0,none⟩),.pointer (some ⟨P.cb,0,none⟩),.agg #[.int .i64 5,.int .i64 a,.int .i64 b,.int .i64 c,.int .i64 n,va]] w (ActR E L P m d fr w (kindly (top fr.stk) b h (.go ⟨Run.store fr.loc a.toNat (top fr.stk),fr.stk.dropLast,fr.at_+1⟩ h))):=by
 have hKX:∀ k,KX E L P k→k < w.heap.size:=fun k hk=>by
  rcases hk with hk | hk | hk
  ·exact (own_lo H.rows hk).2
  ·rw [hk];exact F.cbw
  ·rw [hk];exact F.lbw
 have HH:=Lib.hid H
 have hhb0:E.hb < w.heap.size:=H.rows.base.2
 have hhb1:E.hb < w.heap.size+1:=by omega
 have hcb0:P.cb < w.heap.size:=F.cbw
 have c10:=F.c10
 obtain ⟨Z,hZ⟩:∃ Z:Nat→Prop,Hid (Z=fun k=>P.Z k∨k=w.heap.size):=⟨_,rfl⟩
 have HB0:Below w.heap.size w (w.alloc (.cells #[.int .i64 5,.int .i64 a,.int .i64 b,.int .i64 c,.int .i64 n,va] 66)):=by exact Rd.byB
 have H0:=Lib.hid (H.below HB0)
 have F0:=Lib.hid (F.zone HB0 Z (fun k hk=>by rw [hZ.out] at hk;rcases hk with q | q;exact .inl q;exact .inr (by omega)) (fun k hk=>by rw [hZ.out] at hk;rcases hk with q | q;exact Nat.lt_of_lt_of_le (F.zlt k q) HB0.size;(simp;omega)))
 have nx0:¬ KX E L (P.zone Z) w.heap.size:=fun hk=>by have:=hKX _ hk;omega
 have zp:Hid (∀ k,P.Z k→Z k):=fun k hk=>by rw [hZ.out];exact .inl hk
 have hkx:=Lib.hid hKX
 have KB0:=Lib.hid (kpB (X:=KX E L P) HB0)
 clear H F hZ HB0 hKX
 obtain ⟨v,hv⟩:∃ v,Hid (top fr.stk=v):=⟨_,rfl⟩
 rw [hv.out] at hst
 rw [hv.out]
 by_cases q:v.kind=b
 ·have qb:(v.kind==b)=true:=by simpa using q
  unfold kindly
  rw [if_pos q]
  clear q
  obtain ⟨k,rfl⟩:=Int.eq_ofNat_of_zero_le ha
  replace hst:=Lib.hid hst
  replace hpair:=Lib.hid hpair
  go_enter Tryz.func66,Tryz.ntmps66
  go_wp2_with (go_at_call 64;refine (take1R H0.out F0.out hn (by omega)).mono ?_;rintro e w1 ⟨vt,vs1,rfl,V1,F1,H1,K1⟩;have i0:=K1.cell (c:=w.heap.size) (o:=0) (v:=.int .i64 5) (by go_simp) nx0;have i1:=K1.cell (c:=w.heap.size) (o:=1) (v:=.int .i64 (k:Int)) (by go_simp) nx0;have i2:=K1.cell (c:=w.heap.size) (o:=2) (v:=.int .i64 b) (by go_simp) nx0;have i4:=K1.cell (c:=w.heap.size) (o:=4) (v:=.int .i64 n) (by go_simp) nx0;obtain ⟨vb,vo,vcap,rfl,v1,v2,v3,v4,v5,v6⟩:=VS.one V1;rw [hv.out] at v5 v6;have vne:=vs_ne v4;have vne2:=vne.symm;have hb1:=H1.rows.base.2;have hsz1:w.heap.size < w1.heap.size:=(by have:=K1.size;simp at this;omega);have c12:=H1.c12;replace V1:=Lib.hid V1;replace F1:=Lib.hid F1;replace H1:=Lib.hid H1;replace K1:=Lib.hid (KB0.out.trans K1 (fun y hy=>.inl hy)))
  go_still_tail 8,(by kernel_rfl)
  have c8:w1.cell? ⟨P.cb,8,none⟩=some (.slice (some ⟨P.lb,0,none⟩) fr.loc.length fr.loc.length):=F1.out.c8
  have cbw:=F1.out.cbw
  have cbw2:P.cb < w1.heap.size:=cbw
  go_wp2_with (go_at_call 63;refine (mustT (H1.out.below (w':=w1.drew) (by exact Rd.byB)) rfl).mono ?_;rintro e w2 ⟨rfl,rfl⟩)
  have hlb:P.lb < w1.drew.heap.size:=F1.out.lbw
  have hq:=Lib.hid (of_beq qb)
  have g1:w1.drew.cell? ⟨w.heap.size,1,none⟩=some (.int .i64 (k:Int)):=i1
  have g5:w1.drew.cell? ⟨vb,vo,none⟩=some (.int .i64 v.kind):=v5
  have g6:w1.drew.cell? ⟨vb,vo+1,none⟩=some (.int .i64 v.n):=v6
  have g8:w1.drew.cell? ⟨P.cb,8,none⟩=some (.slice (some ⟨P.lb,0,none⟩) fr.loc.length fr.loc.length):=c8
  have HD:=Lib.hid (H1.out.below (w':=w1.drew) (by exact Rd.byB))
  have FD:=Lib.hid (F1.out.below (w':=w1.drew) (by exact Rd.byB))
  have KD:=Lib.hid (kb K1.out (w2:=w1.drew) (by exact Rd.byB))
  clear H1 F1 K1 V1 i0 i1 i2 i4 v5 v6 c8 c12 v3 hb1 hsz1 cbw cbw2
  generalize w1.drew=W2 at *
  go_still_tail 9,(by kernel_rfl)
  have HB:=Lib.hid (FD.out.loc.next (kpB (X:=fun _=>False) (w1:=W2.drew) (by exact Rd.byB)) (fun e=>e))
  go_wp2_with (go_at_call 60;refine (storeR (l:=fr.loc) HB.out hlb hpair.out k v (by have:=hst.out hq.out;omega) h1000).mono ?_;rintro e w3 ⟨rfl,B2,K2⟩;replace B2:=Lib.hid B2;replace K2:=Lib.hid K2)
  go_ret
  have K3:Kp (fun k=>k=P.lb) W2 w3:=((Kp.refl (fun k=>k=P.lb) W2).drew).trans K2.out (fun _ h=>.inl h)
  have F3:=FD.out.stores (l:=Run.store fr.loc k v) (store_len _ _ _) B2.out K3
  refine act_go rfl (by simp) (KD.out.trans K3 (fun y e=>.inl (.inr (.inr e)))) same_own (HD.out.frame FD.out (K3.mono (fun _ e=>.inr e))) (F3.unzone zp.out)
 ·have qb:(v.kind==b)=false:=by simpa using q
  unfold kindly
  rw [if_neg q]
  clear q hst
  go_enter Tryz.func66,Tryz.ntmps66
  go_wp2_with (go_at_call 64;refine (take1R H0.out F0.out hn (by omega)).mono ?_;rintro e w1 ⟨vt,vs1,rfl,V1,F1,H1,K1⟩;have i0:=K1.cell (c:=w.heap.size) (o:=0) (v:=.int .i64 5) (by go_simp) nx0;have i1:=K1.cell (c:=w.heap.size) (o:=1) (v:=.int .i64 a) (by go_simp) nx0;have i2:=K1.cell (c:=w.heap.size) (o:=2) (v:=.int .i64 b) (by go_simp) nx0;have i4:=K1.cell (c:=w.heap.size) (o:=4) (v:=.int .i64 n) (by go_simp) nx0;obtain ⟨vb,vo,vcap,rfl,v1,v2,v3,v4,v5,v6⟩:=VS.one V1;rw [hv.out] at v5 v6;have vne:=vs_ne v4;have vne2:=vne.symm;have hb1:=H1.rows.base.2;have hsz1:w.heap.size < w1.heap.size:=(by have:=K1.size;simp at this;omega);have c12:=H1.c12;replace V1:=Lib.hid V1;replace F1:=Lib.hid F1;replace H1:=Lib.hid H1;replace K1:=Lib.hid (KB0.out.trans K1 (fun y hy=>.inl hy)))
  go_still_tail 8,(by kernel_rfl)
  go_wp2_with (go_at_call 63;refine (mustF (H1.out.below (w':=w1.drew) (by exact Rd.byB)) rfl).mono ?_;rintro e w2 ⟨rfl,hw⟩;obtain ⟨HE,KE⟩:RH E w2 L h d (Sv.ends 6)∧Kp (own E L) w1.drew w2:=(by rw [← hw];exact ended (H1.out.below (w':=w1.drew) (by exact Rd.byB)) rfl 6 (Below.refl _ _));clear hw;have c12e:=HE.c12;replace HE:=Lib.hid HE;replace KE:=Lib.hid KE)
  go_ret
  exact act_stop rfl ((kb K1.out (w2:=w1.drew) (by exact Rd.byB)).trans KE.out (fun _ hy=>.inl (.inl hy))) same_own HE.out
end
end Rhw
namespace Rhw
open Num Rd D Run Mem HierW Hpw
section
variable {E:Ev}{w w' w2:World}{L L' L2:RL}{h h':Hp}{d:Nat}{s:Sv}{P:Pl}{m:Me}{fr fr':Sf}{vs vs2:Value}
set_option maxRecDepth 100000 in
theorem do4 (H:RH E w L h d Sv.run) (F:Fr E w L P m fr vs) (hl:fr.stk.length≤500) (hat:fr.at_≤100000) (a b c n:Int) (va:Value) (ha:0≤a) (hk:a.toNat < fr.loc.length) (hloc:Blk w P.lb (vcells fr.loc)) (c8':w.cell? ⟨P.cb,8,none⟩=some (.slice (some ⟨P.lb,0,none⟩) fr.loc.length fr.loc.length)) :
  Calls Tryz.prog 66 #[.pointer (some ⟨E.hb,0,none⟩),.pointer (some ⟨P.cb,0,none⟩),.agg #[.int .i64 4,.int .i64 a,.int .i64 b,.int .i64 c,.int .i64 n,va]] w (ActR E L P m d fr w (kindly (fr.loc.getD a.toNat Vl.nil) b h (push m fr fr.stk (fr.loc.getD a.toNat Vl.nil) h))):=by
 have hKX:∀ k,KX E L P k→k < w.heap.size:=fun k hk=>by
  rcases hk with hk | hk | hk
  ·exact (own_lo H.rows hk).2
  ·rw [hk];exact F.cbw
  ·rw [hk];exact F.lbw
 have HH:=Lib.hid H
 have hhb0:E.hb < w.heap.size:=H.rows.base.2
 have hhb1:E.hb < w.heap.size+1:=by omega
 have hcb0:P.cb < w.heap.size:=F.cbw
 have c10:=F.c10
 obtain ⟨Z,hZ⟩:∃ Z:Nat→Prop,Hid (Z=fun k=>P.Z k∨k=w.heap.size):=⟨_,rfl⟩
 have HB0:Below w.heap.size w (w.alloc (.cells #[.int .i64 4,.int .i64 a,.int .i64 b,.int .i64 c,.int .i64 n,va] 66)):=by exact Rd.byB
 have H0:=Lib.hid (H.below HB0)
 have F0:=Lib.hid (F.zone HB0 Z (fun k hk=>by rw [hZ.out] at hk;rcases hk with q | q;exact .inl q;exact .inr (by omega)) (fun k hk=>by rw [hZ.out] at hk;rcases hk with q | q;exact Nat.lt_of_lt_of_le (F.zlt k q) HB0.size;(simp;omega)))
 have nx0:¬ KX E L (P.zone Z) w.heap.size:=fun hk=>by have:=hKX _ hk;omega
 have zp:Hid (∀ k,P.Z k→Z k):=fun k hk=>by rw [hZ.out];exact .inl hk
 have hkx:=Lib.hid hKX
 have KB0:=Lib.hid (kpB (X:=KX E L P) HB0)
 clear H F hZ HB0 hKX
 obtain ⟨k,rfl⟩:=Int.eq_ofNat_of_zero_le ha
 rw [Int.toNat_natCast] at hk ⊢
 obtain ⟨x,hx⟩:∃ x,Hid (fr.loc.getD k Vl.nil=x):=⟨_,rfl⟩
 have c8:w.cell? ⟨P.cb,8,none⟩=some (.slice (some ⟨P.lb,0,none⟩) fr.loc.length fr.loc.length):=c8'
 obtain ⟨g0,g1,_,_⟩:=Blk.getV hloc hk
 rw [hx.out] at g0 g1
 rw [hx.out]
 have lbw0:P.lb < w.heap.size:=cell_lt g0
 have hki:(k:Int) < fr.loc.length:=by omega
 replace hloc:=Lib.hid hloc
 by_cases q:x.kind=b
 ·have qb:(x.kind==b)=true:=by simpa using q
  unfold kindly
  rw [if_pos q]
  clear q
  go_enter Tryz.func66,Tryz.ntmps66
  go_wp2
  have a8:(w.alloc (.cells #[.int .i64 4,.int .i64 (k:Int),.int .i64 b,.int .i64 c,.int .i64 n,va] 66)).cell? ⟨P.cb,8,none⟩=some (.slice (some ⟨P.lb,0,none⟩) fr.loc.length fr.loc.length):=by go_simp
  have a0:(w.alloc (.cells #[.int .i64 4,.int .i64 (k:Int),.int .i64 b,.int .i64 c,.int .i64 n,va] 66)).cell? ⟨P.lb,k*2,none⟩=some (.int .i64 x.kind):=by go_simp
  have a1:(w.alloc (.cells #[.int .i64 4,.int .i64 (k:Int),.int .i64 b,.int .i64 c,.int .i64 n,va] 66)).cell? ⟨P.lb,k*2+1,none⟩=some (.int .i64 x.n):=by go_simp
  have j1:(w.alloc (.cells #[.int .i64 4,.int .i64 (k:Int),.int .i64 b,.int .i64 c,.int .i64 n,va] 66)).cell? ⟨w.heap.size,1,none⟩=some (.int .i64 (k:Int)):=by go_simp
  have j2:(w.alloc (.cells #[.int .i64 4,.int .i64 (k:Int),.int .i64 b,.int .i64 c,.int .i64 n,va] 66)).cell? ⟨w.heap.size,2,none⟩=some (.int .i64 b):=by go_simp
  have sz:w.heap.size < (w.alloc (.cells #[.int .i64 4,.int .i64 (k:Int),.int .i64 b,.int .i64 c,.int .i64 n,va] 66)).heap.size:=by simp
  generalize w.alloc (.cells #[.int .i64 4,.int .i64 (k:Int),.int .i64 b,.int .i64 c,.int .i64 n,va] 66)=W1 at a8 a0 a1 j1 j2 sz H0 F0 KB0 ⊢
  have H1:=H0
  have F1:=F0
  have K1:=KB0
  have lcb:P.cb < W1.heap.size:=by omega
  have llb:P.lb < W1.heap.size:=by omega
  go_region
  go_wp2_with (first | (go_at_call 63;refine (mustT (H1.out.below (by exact Rd.byB)) rfl).mono ?_;rintro e w2 ⟨rfl,rfl⟩) | (go_at_call 68;refine (putA (H1.out.below (by exact Rd.byB)) (.inl rfl) (F1.out.below (by exact Rd.byB)) x (by omega)).mono ?_;rintro e w2 ⟨vs2,rfl,F2,H2,K2⟩;replace F2:=Lib.hid F2;replace H2:=Lib.hid H2;replace K2:=Lib.hid K2))
  go_ret
  exact act_push (by simp) ((kb K1.out (by exact Rd.byB)).trans K2.out (fun _ h=>.inl h)) same_own H2.out (F2.out.unzone zp.out)
 ·have qb:(x.kind==b)=false:=by simpa using q
  unfold kindly
  rw [if_neg q]
  clear q
  go_enter Tryz.func66,Tryz.ntmps66
  go_wp2
  have a8:(w.alloc (.cells #[.int .i64 4,.int .i64 (k:Int),.int .i64 b,.int .i64 c,.int .i64 n,va] 66)).cell? ⟨P.cb,8,none⟩=some (.slice (some ⟨P.lb,0,none⟩) fr.loc.length fr.loc.length):=by go_simp
  have a0:(w.alloc (.cells #[.int .i64 4,.int .i64 (k:Int),.int .i64 b,.int .i64 c,.int .i64 n,va] 66)).cell? ⟨P.lb,k*2,none⟩=some (.int .i64 x.kind):=by go_simp
  have a1:(w.alloc (.cells #[.int .i64 4,.int .i64 (k:Int),.int .i64 b,.int .i64 c,.int .i64 n,va] 66)).cell? ⟨P.lb,k*2+1,none⟩=some (.int .i64 x.n):=by go_simp
  have j1:(w.alloc (.cells #[.int .i64 4,.int .i64 (k:Int),.int .i64 b,.int .i64 c,.int .i64 n,va] 66)).cell? ⟨w.heap.size,1,none⟩=some (.int .i64 (k:Int)):=by go_simp
  have j2:(w.alloc (.cells #[.int .i64 4,.int .i64 (k:Int),.int .i64 b,.int .i64 c,.int .i64 n,va] 66)).cell? ⟨w.heap.size,2,none⟩=some (.int .i64 b):=by go_simp
  have sz:w.heap.size < (w.alloc (.cells #[.int .i64 4,.int .i64 (k:Int),.int .i64 b,.int .i64 c,.int .i64 n,va] 66)).heap.size:=by simp
  generalize w.alloc (.cells #[.int .i64 4,.int .i64 (k:Int),.int .i64 b,.int .i64 c,.int .i64 n,va] 66)=W1 at a8 a0 a1 j1 j2 sz H0 F0 KB0 ⊢
  have H1:=H0
  have F1:=F0
  have K1:=KB0
  have lcb:P.cb < W1.heap.size:=by omega
  have llb:P.lb < W1.heap.size:=by omega
  go_region
  go_wp2_with (go_at_call 63;refine (mustF (H1.out.below (by exact Rd.byB)) rfl).mono ?_;rintro e w2 ⟨rfl,rfl⟩)
  go_ret
  obtain ⟨e1,e2⟩:=ended (H1.out.below (w':=(W1.alloc (.cells #[.int .i64 x.kind,.int .i64 x.n] 72))) (by exact Rd.byB)) rfl 6 (Below.refl _ _)
  exact act_stop rfl (kb ((kb K1.out (w2:=(W1.alloc (.cells #[.int .i64 x.kind,.int .i64 x.n] 72))) (by exact Rd.byB)).trans e2 (fun _ h=>.inl (.inl h))) (by exact Rd.byB)) same_own (e1.below (by exact Rd.byB))
def dupA (m:Me) (fr:Sf) (st:List Vl) (v:Vl) (h:Hp):Run.Act Sf:=if (size (st++[v,v]):Int)≤m.stack then .go (on fr (st++[v,v]) (fr.at_+1)) h else .stop 6 h
theorem size_app:∀ (l k:List Vl),size (l++k)=size l+size k:=by
 intro l
 induction l with
 | nil=>intro k;simp [size]
 | cons v l ih=>intro k;simp only [List.cons_append,size,ih];omega
set_option maxRecDepth 100000 in
theorem do23S (H:RH E w L h d Sv.run) (F:Fr E w L P m fr vs) (hl:fr.stk.length≤500) (hat:fr.at_≤100000) (hn:fr.stk=[]) (a b c n:Int) (va:Value) :
  Calls Tryz.prog 66 #[.pointer (some ⟨E.hb,0,none⟩),.pointer (some ⟨P.cb,0,none⟩),.agg #[.int .i64 23,.int .i64 a,.int .i64 b,.int .i64 c,.int .i64 n,va]] w (ActR E L P m d fr w (.stop 6 h)):=by
 have hKX:∀ k,KX E L P k→k < w.heap.size:=fun k hk=>by
  rcases hk with hk | hk | hk
  ·exact (own_lo H.rows hk).2
  ·rw [hk];exact F.cbw
  ·rw [hk];exact F.lbw
 have HH:=Lib.hid H
 have hhb0:E.hb < w.heap.size:=H.rows.base.2
 have hhb1:E.hb < w.heap.size+1:=by omega
 have hcb0:P.cb < w.heap.size:=F.cbw
 have c10:=F.c10
 obtain ⟨Z,hZ⟩:∃ Z:Nat→Prop,Hid (Z=fun k=>P.Z k∨k=w.heap.size):=⟨_,rfl⟩
 have HB0:Below w.heap.size w (w.alloc (.cells #[.int .i64 23,.int .i64 a,.int .i64 b,.int .i64 c,.int .i64 n,va] 66)):=by exact Rd.byB
 have H0:=Lib.hid (H.below HB0)
 have F0:=Lib.hid (F.zone HB0 Z (fun k hk=>by rw [hZ.out] at hk;rcases hk with q | q;exact .inl q;exact .inr (by omega)) (fun k hk=>by rw [hZ.out] at hk;rcases hk with q | q;exact Nat.lt_of_lt_of_le (F.zlt k q) HB0.size;(simp;omega)))
 have nx0:¬ KX E L (P.zone Z) w.heap.size:=fun hk=>by have:=hKX _ hk;omega
 have zp:Hid (∀ k,P.Z k→Z k):=fun k hk=>by rw [hZ.out];exact .inl hk
 have hkx:=Lib.hid hKX
 have KB0:=Lib.hid (kpB (X:=KX E L P) HB0)
 clear H F hZ HB0 hKX
 go_enter Tryz.func66,Tryz.ntmps66
 go_wp2_with (go_at_call 64;refine (take1S H0.out F0.out hn).mono ?_;rintro e w1 ⟨vt,vs1,rfl,V1,F1,H1,K1⟩;have i0:=K1.cell (c:=w.heap.size) (o:=0) (v:=.int .i64 23) (by go_simp) nx0;have i1:=K1.cell (c:=w.heap.size) (o:=1) (v:=.int .i64 a) (by go_simp) nx0;have i2:=K1.cell (c:=w.heap.size) (o:=2) (v:=.int .i64 b) (by go_simp) nx0;have i4:=K1.cell (c:=w.heap.size) (o:=4) (v:=.int .i64 n) (by go_simp) nx0;have hb1:=H1.rows.base.2;have hsz1:w.heap.size < w1.heap.size:=(by have:=K1.size;simp at this;omega);have c12:=H1.c12;replace V1:=Lib.hid V1;replace F1:=Lib.hid F1;replace H1:=Lib.hid H1;replace K1:=Lib.hid (KB0.out.trans K1 (fun y hy=>.inl hy)))
 go_ret
 exact act_stop rfl K1.out same_own H1.out
set_option maxRecDepth 100000 in
theorem do23 (H:RH E w L h d Sv.run) (F:Fr E w L P m fr vs) (hl:fr.stk.length≤500) (hat:fr.at_≤100000) (hn:fr.stk≠[]) (a b c n:Int) (va:Value) :
  Calls Tryz.prog 66 #[.pointer (some ⟨E.hb,0,none⟩),.pointer (some ⟨P.cb,0,none⟩),.agg #[.int .i64 23,.int .i64 a,.int .i64 b,.int .i64 c,.int .i64 n,va]] w (ActR E L P m d fr w (dupA m fr fr.stk.dropLast (top fr.stk) h)):=by
 have hKX:∀ k,KX E L P k→k < w.heap.size:=fun k hk=>by
  rcases hk with hk | hk | hk
  ·exact (own_lo H.rows hk).2
  ·rw [hk];exact F.cbw
  ·rw [hk];exact F.lbw
 have HH:=Lib.hid H
 have hhb0:E.hb < w.heap.size:=H.rows.base.2
 have hhb1:E.hb < w.heap.size+1:=by omega
 have hcb0:P.cb < w.heap.size:=F.cbw
 have c10:=F.c10
 obtain ⟨Z,hZ⟩:∃ Z:Nat→Prop,Hid (Z=fun k=>P.Z k∨k=w.heap.size):=⟨_,rfl⟩
 have HB0:Below w.heap.size w (w.alloc (.cells #[.int .i64 23,.int .i64 a,.int .i64 b,.int .i64 c,.int .i64 n,va] 66)):=by exact Rd.byB
 have H0:=Lib.hid (H.below HB0)
 have F0:=Lib.hid (F.zone HB0 Z (fun k hk=>by rw [hZ.out] at hk;rcases hk with q | q;exact .inl q;exact .inr (by omega)) (fun k hk=>by rw [hZ.out] at hk;rcases hk with q | q;exact Nat.lt_of_lt_of_le (F.zlt k q) HB0.size;(simp;omega)))
 have nx0:¬ KX E L (P.zone Z) w.heap.size:=fun hk=>by have:=hKX _ hk;omega
 have zp:Hid (∀ k,P.Z k→Z k):=fun k hk=>by rw [hZ.out];exact .inl hk
 have hkx:=Lib.hid hKX
 have KB0:=Lib.hid (kpB (X:=KX E L P) HB0)
 clear H F hZ HB0 hKX
 obtain ⟨v,hv⟩:∃ v,Hid (top fr.stk=v):=⟨_,rfl⟩
 rw [hv.out]
 have hlen:fr.stk.dropLast.length≤500:=by rw [List.length_dropLast];omega
 by_cases q:(size (fr.stk.dropLast++[v]):Int)≤m.stack
 ·have Q:=Lib.hid q
  clear q
  go_enter Tryz.func66,Tryz.ntmps66
  go_wp2_with (first | (go_at_call 64;refine (take1R H0.out F0.out hn (by omega)).mono ?_;rintro e w1 ⟨vt,vs1,rfl,V1,F1,H1,K1⟩;have i0:=K1.cell (c:=w.heap.size) (o:=0) (v:=.int .i64 23) (by go_simp) nx0;have i1:=K1.cell (c:=w.heap.size) (o:=1) (v:=.int .i64 a) (by go_simp) nx0;have i2:=K1.cell (c:=w.heap.size) (o:=2) (v:=.int .i64 b) (by go_simp) nx0;have i4:=K1.cell (c:=w.heap.size) (o:=4) (v:=.int .i64 n) (by go_simp) nx0;obtain ⟨vb,vo,vcap,rfl,v1,v2,v3,v4,v5,v6⟩:=VS.one V1;rw [hv.out] at v5 v6;have vne:=vs_ne v4;have vne2:=vne.symm;have hb1:=H1.rows.base.2;have hsz1:w.heap.size < w1.heap.size:=(by have:=K1.size;simp at this;omega);have c12:=H1.c12;replace V1:=Lib.hid V1;replace F1:=Lib.hid F1;replace H1:=Lib.hid H1;replace K1:=Lib.hid (KB0.out.trans K1 (fun y hy=>.inl hy))) | (go_at_call 68;refine (putA H1.out (.inl rfl) F1.out v (by simp;omega)).mono ?_;rintro e w2 ⟨vsw2,rfl,Fw2,Hw2,Kw2⟩;rw [putS_run,if_pos Q.out] at Hw2;have u5:=Kw2.cell v5 (fun hk=>v4 (.inl hk));have u6:=Kw2.cell v6 (fun hk=>v4 (.inl hk));replace Fw2:=Lib.hid Fw2;replace Kw2:=Lib.hid Kw2;replace Hw2:=Lib.hid Hw2) | (go_at_call 68;refine (putA Hw2.out (.inl rfl) Fw2.out v (by simp;omega)).mono ?_;rintro e w3 ⟨vsw3,rfl,Fw3,Hw3,Kw3⟩;replace Fw3:=Lib.hid Fw3;replace Hw3:=Lib.hid Hw3;replace Kw3:=Lib.hid Kw3))
  go_ret
  have hK:=((K1.out.trans Kw2.out (fun _ h=>.inl h)).trans Kw3.out (fun _ h=>.inl h))
  have H3:=Hw3.out
  have F3:=Fw3.out
  simp only [List.append_assoc,List.cons_append,List.nil_append] at H3 F3
  rw [putS_run] at H3
  unfold dupA
  by_cases q2:(size (fr.stk.dropLast++[v,v]):Int)≤m.stack
  ·rw [if_pos q2] at H3 ⊢
   exact act_go rfl (by simp [on]) hK same_own H3 (F3.unzone zp.out)
  ·rw [if_neg q2] at H3 ⊢
   exact act_stop rfl hK same_own H3
 ·have Q:=Lib.hid (show m.stack < (size (fr.stk.dropLast++[v]):Int) by omega)
  clear q
  go_enter Tryz.func66,Tryz.ntmps66
  go_wp2_with (first | (go_at_call 64;refine (take1R H0.out F0.out hn (by omega)).mono ?_;rintro e w1 ⟨vt,vs1,rfl,V1,F1,H1,K1⟩;have i0:=K1.cell (c:=w.heap.size) (o:=0) (v:=.int .i64 23) (by go_simp) nx0;have i1:=K1.cell (c:=w.heap.size) (o:=1) (v:=.int .i64 a) (by go_simp) nx0;have i2:=K1.cell (c:=w.heap.size) (o:=2) (v:=.int .i64 b) (by go_simp) nx0;have i4:=K1.cell (c:=w.heap.size) (o:=4) (v:=.int .i64 n) (by go_simp) nx0;obtain ⟨vb,vo,vcap,rfl,v1,v2,v3,v4,v5,v6⟩:=VS.one V1;rw [hv.out] at v5 v6;have vne:=vs_ne v4;have vne2:=vne.symm;have hb1:=H1.rows.base.2;have hsz1:w.heap.size < w1.heap.size:=(by have:=K1.size;simp at this;omega);have c12:=H1.c12;replace V1:=Lib.hid V1;replace F1:=Lib.hid F1;replace H1:=Lib.hid H1;replace K1:=Lib.hid (KB0.out.trans K1 (fun y hy=>.inl hy))) | (go_at_call 68;refine (putA H1.out (.inl rfl) F1.out v (by simp;omega)).mono ?_;rintro e w2 ⟨vsw2,rfl,Fw2,Hw2,Kw2⟩;rw [putS_full Q.out] at Hw2;have u5:=Kw2.cell v5 (fun hk=>v4 (.inl hk));have u6:=Kw2.cell v6 (fun hk=>v4 (.inl hk));replace Fw2:=Lib.hid Fw2;replace Kw2:=Lib.hid Kw2;replace Hw2:=Lib.hid Hw2) | (go_at_call 68;refine (putA Hw2.out (.inr ⟨6,rfl⟩) Fw2.out v (by simp;omega)).mono ?_;rintro e w3 ⟨vsw3,rfl,Fw3,Hw3,Kw3⟩;replace Fw3:=Lib.hid Fw3;replace Hw3:=Lib.hid Hw3;replace Kw3:=Lib.hid Kw3))
  go_ret
  have hK:=((K1.out.trans Kw2.out (fun _ h=>.inl h)).trans Kw3.out (fun _ h=>.inl h))
  have hno:¬ (size (fr.stk.dropLast++[v,v]):Int)≤m.stack:=by
   have h1:=Q.out
   have h2:=size_app fr.stk.dropLast [v]
   have h3:=size_app fr.stk.dropLast [v,v]
   simp only [size] at h2 h3
   omega
  unfold dupA
  rw [if_neg hno]
  exact act_stop rfl hK same_own Hw3.out
end
end Rhw
namespace Rhw
open Num Rd D Run Mem HierW Hpw
section
variable {E:Ev}{w w' w2:World}{L L' L2:RL}{h h':Hp}{d:Nat}{s:Sv}{P:Pl}{m:Me}{fr fr':Sf}{vs vs2:Value}
set_option maxRecDepth 100000 in
theorem do16S (H:RH E w L h d Sv.run) (F:Fr E w L P m fr vs) (hl:fr.stk.length≤500) (hat:fr.at_≤100000) (hn:fr.stk=[]∨fr.stk.dropLast=[]) (a b c n:Int) (va:Value) :
  Calls Tryz.prog 66 #[.pointer (some ⟨E.hb,0,none⟩),.pointer (some ⟨P.cb,0,none⟩),.agg #[.int .i64 16,.int .i64 a,.int .i64 b,.int .i64 c,.int .i64 n,va]] w (ActR E L P m d fr w (.stop 6 h)):=by
 have hKX:∀ k,KX E L P k→k < w.heap.size:=fun k hk=>by
  rcases hk with hk | hk | hk
  ·exact (own_lo H.rows hk).2
  ·rw [hk];exact F.cbw
  ·rw [hk];exact F.lbw
 have HH:=Lib.hid H
 have hhb0:E.hb < w.heap.size:=H.rows.base.2
 have hhb1:E.hb < w.heap.size+1:=by omega
 have hcb0:P.cb < w.heap.size:=F.cbw
 have c10:=F.c10
 obtain ⟨Z,hZ⟩:∃ Z:Nat→Prop,Hid (Z=fun k=>P.Z k∨k=w.heap.size):=⟨_,rfl⟩
 have HB0:Below w.heap.size w (w.alloc (.cells #[.int .i64 16,.int .i64 a,.int .i64 b,.int .i64 c,.int .i64 n,va] 66)):=by exact Rd.byB
 have H0:=Lib.hid (H.below HB0)
 have F0:=Lib.hid (F.zone HB0 Z (fun k hk=>by rw [hZ.out] at hk;rcases hk with q | q;exact .inl q;exact .inr (by omega)) (fun k hk=>by rw [hZ.out] at hk;rcases hk with q | q;exact Nat.lt_of_lt_of_le (F.zlt k q) HB0.size;(simp;omega)))
 have nx0:¬ KX E L (P.zone Z) w.heap.size:=fun hk=>by have:=hKX _ hk;omega
 have zp:Hid (∀ k,P.Z k→Z k):=fun k hk=>by rw [hZ.out];exact .inl hk
 have hkx:=Lib.hid hKX
 have KB0:=Lib.hid (kpB (X:=KX E L P) HB0)
 clear H F hZ HB0 hKX
 go_enter Tryz.func66,Tryz.ntmps66
 go_wp2_with (go_at_call 64;refine (take2S H0.out F0.out hn).mono ?_;rintro e w1 ⟨vt,vs1,rfl,V1,F1,H1,K1⟩;have i0:=K1.cell (c:=w.heap.size) (o:=0) (v:=.int .i64 16) (by go_simp) nx0;have i1:=K1.cell (c:=w.heap.size) (o:=1) (v:=.int .i64 a) (by go_simp) nx0;have i2:=K1.cell (c:=w.heap.size) (o:=2) (v:=.int .i64 b) (by go_simp) nx0;have i4:=K1.cell (c:=w.heap.size) (o:=4) (v:=.int .i64 n) (by go_simp) nx0;obtain ⟨vb,vo,vcap,rfl,v1,v2,v3,v4,v5,v6,v7,v8⟩:=VS.two V1;have vne:=vs_ne v4;have vne2:=vne.symm;have hb1:=H1.rows.base.2;have hsz1:w.heap.size < w1.heap.size:=(by have:=K1.size;simp at this;omega);have c12:=H1.c12;replace V1:=Lib.hid V1;replace F1:=Lib.hid F1;replace H1:=Lib.hid H1;replace K1:=Lib.hid (KB0.out.trans K1 (fun y hy=>.inl hy)))
 go_ret
 exact act_stop rfl K1.out same_own H1.out
set_option maxRecDepth 100000 in
theorem do16 (H:RH E w L h d Sv.run) (F:Fr E w L P m fr vs) (hl:fr.stk.length≤500) (hat:fr.at_≤100000) (hm:Hier.may E.f.classes=true) (HO:HpOk E.f.classes E.input E.fuel h) (hn:fr.stk≠[]) (hn2:fr.stk.dropLast≠[]) (a b c n:Int) (va:Value) (ha:0≤a) (ha2:a < E.f.classes.length) (hb:0≤b) (hb2:b < ((Hier.at' E.f.classes a.toNat).fields.length:Int)) (hox:VlOk h.objs.length (top fr.stk.dropLast)) (hoy:VlOk h.objs.length (top fr.stk)) :
  Calls Tryz.prog 66 #[.pointer (some ⟨E.hb,0,none⟩),.pointer (some ⟨P.cb,0,none⟩),.agg #[.int .i64 16,.int .i64 a,.int .i64 b,.int .i64 c,.int .i64 n,va]] w (ActR E L P m d fr w (kindly (top fr.stk.dropLast) 3 h ((Run.put E.f.classes (top fr.stk.dropLast) a b (top fr.stk) (ftype E.f.classes a b) h).act fun _ h=>.go (on fr fr.stk.dropLast.dropLast (fr.at_+1)) h))):=by
 have hKX:∀ k,KX E L P k→k < w.heap.size:=fun k hk=>by
  rcases hk with hk | hk | hk
  ·exact (own_lo H.rows hk).2
  ·rw [hk];exact F.cbw
  ·rw [hk];exact F.lbw
 have HH:=Lib.hid H
 have hhb0:E.hb < w.heap.size:=H.rows.base.2
 have hhb1:E.hb < w.heap.size+1:=by omega
 have hcb0:P.cb < w.heap.size:=F.cbw
 have c10:=F.c10
 obtain ⟨Z,hZ⟩:∃ Z:Nat→Prop,Hid (Z=fun k=>P.Z k∨k=w.heap.size):=⟨_,rfl⟩
 have HB0:Below w.heap.size w (w.alloc (.cells #[.int .i64 16,.int .i64 a,.int .i64 b,.int .i64 c,.int .i64 n,va] 66)):=by exact Rd.byB
 have H0:=Lib.hid (H.below HB0)
 have F0:=Lib.hid (F.zone HB0 Z (fun k hk=>by rw [hZ.out] at hk;rcases hk with q | q;exact .inl q;exact .inr (by omega)) (fun k hk=>by rw [hZ.out] at hk;rcases hk with q | q;exact Nat.lt_of_lt_of_le (F.zlt k q) HB0.size;(simp;omega)))
 have nx0:¬ KX E L (P.zone Z) w.heap.size:=fun hk=>by have:=hKX _ hk;omega
 have zp:Hid (∀ k,P.Z k→Z k):=fun k hk=>by rw [hZ.out];exact .inl hk
 have hkx:=Lib.hid hKX
 have KB0:=Lib.hid (kpB (X:=KX E L P) HB0)
 clear H F hZ HB0 hKX
 obtain ⟨x,hx⟩:∃ x,Hid (top fr.stk.dropLast=x):=⟨_,rfl⟩
 obtain ⟨y,hy⟩:∃ y,Hid (top fr.stk=y):=⟨_,rfl⟩
 rw [hx.out] at hox
 rw [hy.out] at hoy
 rw [hx.out,hy.out]
 replace hox:=Lib.hid hox
 replace hoy:=Lib.hid hoy
 obtain ⟨ka,rfl⟩:=Int.eq_ofNat_of_zero_le ha
 obtain ⟨kb',rfl⟩:=Int.eq_ofNat_of_zero_le hb
 have hka:ka < E.f.classes.length:=by omega
 have hkb:kb' < (Hier.at' E.f.classes ka).fields.length:=by rw [Int.toNat_natCast] at hb2;omega
 replace hkb:=Lib.hid hkb
 clear hb2
 by_cases q:x.kind=3
 ·have qb:(x.kind==3)=true:=by simpa using q
  unfold kindly
  rw [if_pos q]
  clear q
  go_enter Tryz.func66,Tryz.ntmps66
  go_wp2_with (first | (go_at_call 64;refine (take2R H0.out F0.out hn hn2 (by omega)).mono ?_;rintro e w1 ⟨vt,vs1,rfl,V1,F1,H1,K1⟩;have i0:=K1.cell (c:=w.heap.size) (o:=0) (v:=.int .i64 16) (by go_simp) nx0;have i1:=K1.cell (c:=w.heap.size) (o:=1) (v:=.int .i64 (ka:Int)) (by go_simp) nx0;have i2:=K1.cell (c:=w.heap.size) (o:=2) (v:=.int .i64 (kb':Int)) (by go_simp) nx0;have i4:=K1.cell (c:=w.heap.size) (o:=4) (v:=.int .i64 n) (by go_simp) nx0;obtain ⟨vb,vo,vcap,rfl,v1,v2,v3,v4,v5,v6,v7,v8⟩:=VS.two V1;rw [hx.out] at v5 v6;rw [hy.out] at v7 v8;have vne:=vs_ne v4;have vne2:=vne.symm;have hb1:=H1.rows.base.2;have hsz1:w.heap.size < w1.heap.size:=(by have:=K1.size;simp at this;omega);have c12:=H1.c12;replace V1:=Lib.hid V1;replace F1:=Lib.hid F1;replace H1:=Lib.hid H1;replace K1:=Lib.hid (KB0.out.trans K1 (fun y hy=>.inl hy))) | (go_at_call 63;refine (mustT H1.out rfl).mono ?_;rintro e w2 ⟨rfl,rfl⟩))
  go_still_tail 11,(by kernel_rfl)
  go_wp2_with (go_at_call 119;refine (putHR (H1.out.below (w':=w1.drew) (by exact Rd.byB)) hm HO x y hox.out hoy.out ka kb' hka hkb.out).mono ?_;rintro e w2 ⟨rfl,R2⟩;have KK:=rru_kp R2;replace R2:=Lib.hid R2;replace KK:=Lib.hid KK)
  go_ret
  exact act_ru (by simp;omega) (kb K1.out (by exact Rd.byB)) zp.out (F1.out.below (by exact Rd.byB)) (by simp) R2.out
 ·have qb:(x.kind==3)=false:=by simpa using q
  unfold kindly
  rw [if_neg q]
  clear q
  go_enter Tryz.func66,Tryz.ntmps66
  go_wp2_with (first | (go_at_call 64;refine (take2R H0.out F0.out hn hn2 (by omega)).mono ?_;rintro e w1 ⟨vt,vs1,rfl,V1,F1,H1,K1⟩;have i0:=K1.cell (c:=w.heap.size) (o:=0) (v:=.int .i64 16) (by go_simp) nx0;have i1:=K1.cell (c:=w.heap.size) (o:=1) (v:=.int .i64 (ka:Int)) (by go_simp) nx0;have i2:=K1.cell (c:=w.heap.size) (o:=2) (v:=.int .i64 (kb':Int)) (by go_simp) nx0;have i4:=K1.cell (c:=w.heap.size) (o:=4) (v:=.int .i64 n) (by go_simp) nx0;obtain ⟨vb,vo,vcap,rfl,v1,v2,v3,v4,v5,v6,v7,v8⟩:=VS.two V1;rw [hx.out] at v5 v6;rw [hy.out] at v7 v8;have vne:=vs_ne v4;have vne2:=vne.symm;have hb1:=H1.rows.base.2;have hsz1:w.heap.size < w1.heap.size:=(by have:=K1.size;simp at this;omega);have c12:=H1.c12;replace V1:=Lib.hid V1;replace F1:=Lib.hid F1;replace H1:=Lib.hid H1;replace K1:=Lib.hid (KB0.out.trans K1 (fun y hy=>.inl hy))) | (go_at_call 63;refine (mustF H1.out rfl).mono ?_;rintro e w2 ⟨rfl,hw⟩;obtain ⟨HE,KE⟩:RH E w2 L h d (Sv.ends 6)∧Kp (own E L) _ w2:=(by rw [← hw];exact ended H1.out rfl 6 (Below.refl _ _));clear hw;have c12e:=HE.c12;replace HE:=Lib.hid HE;replace KE:=Lib.hid KE))
  go_ret
  exact act_stop rfl (K1.out.trans KE.out (fun _ hy=>.inl (.inl hy))) same_own HE.out
end
end Rhw
namespace Rhw
open Num Rd D Run Mem HierW Hpw
section
variable {E:Ev}{w w' w2:World}{L L' L2:RL}{h h':Hp}{d:Nat}{s:Sv}{P:Pl}{m:Me}{fr fr':Sf}{vs vs2:Value}
set_option maxRecDepth 100000 in
theorem doG (H:RH E w L h d Sv.run) (F:Fr E w L P m fr vs) (hl:fr.stk.length≤500) (hat:fr.at_≤100000) (op:Int) (o11:(op==11)=false) (o12:(op==12)=false) (o13:(op==13)=false) (o19:(op==19)=false) (o21:(op==21)=false) (o4:(op==4)=false) (o5:(op==5)=false) (o22:(op==22)=false) (o23:(op==23)=false) (o24:(op==24)=false) (o16:(op==16)=false) (a b c n:Int) (va:Value) (r:Res Vl) (st:List Vl) (hst:st.length≤500) (HG:∀ (W:World) (Q:Pl) (vs':Value),RH E W L h d Sv.run→Fr E W L Q m fr vs'→Calls Tryz.prog 120 #[.pointer (some ⟨E.hb,0,none⟩),.pointer (some ⟨Q.cb,0,none⟩),.agg #[.int .i64 op,.int .i64 a,.int .i64 b,.int .i64 c,.int .i64 n,va]] W (GiveR E L Q m d W r ⟨fr.loc,st,fr.at_⟩)) :
  Calls Tryz.prog 66 #[.pointer (some ⟨E.hb,0,none⟩),.pointer (some ⟨P.cb,0,none⟩),.agg #[.int .i64 op,.int .i64 a,.int .i64 b,.int .i64 c,.int .i64 n,va]] w (ActR E L P m d fr w (r.act fun v h=>push m fr st v h)):=by
 have hKX:∀ k,KX E L P k→k < w.heap.size:=fun k hk=>by
  rcases hk with hk | hk | hk
  ·exact (own_lo H.rows hk).2
  ·rw [hk];exact F.cbw
  ·rw [hk];exact F.lbw
 have HH:=Lib.hid H
 have hhb0:E.hb < w.heap.size:=H.rows.base.2
 have hhb1:E.hb < w.heap.size+1:=by omega
 have hcb0:P.cb < w.heap.size:=F.cbw
 have c10:=F.c10
 obtain ⟨Z,hZ⟩:∃ Z:Nat→Prop,Hid (Z=fun k=>P.Z k∨k=w.heap.size):=⟨_,rfl⟩
 have HB0:Below w.heap.size w (w.alloc (.cells #[.int .i64 op,.int .i64 a,.int .i64 b,.int .i64 c,.int .i64 n,va] 66)):=by exact Rd.byB
 have H0:=Lib.hid (H.below HB0)
 have F0:=Lib.hid (F.zone HB0 Z (fun k hk=>by rw [hZ.out] at hk;rcases hk with q | q;exact .inl q;exact .inr (by omega)) (fun k hk=>by rw [hZ.out] at hk;rcases hk with q | q;exact Nat.lt_of_lt_of_le (F.zlt k q) HB0.size;(simp;omega)))
 have nx0:¬ KX E L (P.zone Z) w.heap.size:=fun hk=>by have:=hKX _ hk;omega
 have zp:Hid (∀ k,P.Z k→Z k):=fun k hk=>by rw [hZ.out];exact .inl hk
 have hkx:=Lib.hid hKX
 have KB0:=Lib.hid (kpB (X:=KX E L P) HB0)
 clear H F hZ HB0 hKX
 replace HG:=Lib.hid HG
 cases r with
 | ok x h' =>
  go_enter Tryz.func66,Tryz.ntmps66
  go_wp2_with (first | (go_at_call 120;refine (HG.out _ (P.zone Z) _ H0.out F0.out).mono ?_;rintro e w1 ⟨rk,rn,rfl,L1,K1,N1,⟨rfl,rfl⟩,H1,vs1,F1⟩;have hsz1:=K1.size;replace F1:=Lib.hid F1;replace H1:=Lib.hid H1;replace K1:=Lib.hid K1;replace N1:=Lib.hid N1) | (go_at_call 116;refine (stopsF (H1.out.below (by exact Rd.byB)) rfl).mono ?_;rintro e w2 ⟨rfl,rfl⟩) | (go_at_call 68;refine (putA (H1.out.below (by exact Rd.byB)) (.inl rfl) (F1.out.below (by exact Rd.byB)) x (by show st.length≤900;omega)).mono ?_;rintro e w2 ⟨vs2,rfl,F2,H2,K2⟩;replace F2:=Lib.hid F2;replace H2:=Lib.hid H2;replace K2:=Lib.hid K2))
  go_ret
  refine act_push (by simp) ?_ (fun k hk=>(N1.out k hk).imp_right (fun q=>by simp at q;omega)) H2.out (F2.out.unzone zp.out)
  refine (KB0.out.trans K1.out (fun _ h=>.inl h)).trans ((kpB (X:=KX E L1 P) (by exact Rd.byB)).trans K2.out (fun _ h=>.inl h)) (fun y hy=>?_)
  rcases hy with hy | hy
  ·rcases N1.out y hy with q | q
   ·exact .inl (.inl q)
   ·simp at q;exact .inr (by omega)
  ·exact .inl (.inr hy)
 | thrown o h' =>
  go_enter Tryz.func66,Tryz.ntmps66
  go_wp2_with (first | (go_at_call 120;refine (HG.out _ (P.zone Z) _ H0.out F0.out).mono ?_;rintro e w1 ⟨rk,rn,rfl,L1,K1,N1,H1,vs1,F1⟩;have hsz1:=K1.size;replace F1:=Lib.hid F1;replace H1:=Lib.hid H1;replace K1:=Lib.hid K1;replace N1:=Lib.hid N1) | (go_at_call 116;refine (stopsO (H1.out.below (by exact Rd.byB)) (by simp [Sv.thr])).mono ?_;rintro e w2 ⟨rfl,rfl⟩))
  go_ret
  exact act_thr rfl (kb (KB0.out.trans K1.out (fun _ h=>.inl h)) (by exact Rd.byB)) (fun k hk=>(N1.out k hk).imp_right (fun q=>by simp at q;omega)) (H1.out.below (by exact Rd.byB)) ((F1.out.below (by exact Rd.byB)).unzone zp.out)
 | stop o h' =>
  go_enter Tryz.func66,Tryz.ntmps66
  go_wp2_with (first | (go_at_call 120;refine (HG.out _ (P.zone Z) _ H0.out F0.out).mono ?_;rintro e w1 ⟨rk,rn,rfl,L1,K1,N1,H1⟩;have hsz1:=K1.size;replace H1:=Lib.hid H1;replace K1:=Lib.hid K1;replace N1:=Lib.hid N1) | (go_at_call 116;refine (stopsO (H1.out.below (by exact Rd.byB)) rfl).mono ?_;rintro e w2 ⟨rfl,rfl⟩))
  go_ret
  exact act_stop rfl (kb (KB0.out.trans K1.out (fun _ h=>.inl h)) (by exact Rd.byB)) (fun k hk=>(N1.out k hk).imp_right (fun q=>by simp at q;omega)) (H1.out.below (by exact Rd.byB))
end
end Rhw
namespace Run
open D Num
def callA (m m2:Me) (fr:Sf) (r:Res Vl):Act Sf:=match r with
 | .stop e h=>.stop e h
 | .ok v h=>(match sresume m m2 fr v with
  | none=>.stop 6 h
  | some fr=>.go fr h)
 | .thrown o h=>.thrown o h
def actS (f:Fi) (input:List Int) (fuel g d:Nat) (m:Me) (i:Ins) (fr:Sf) (h:Hp):Act Sf :=
 match sstep f input m i fr h with
 | .call k args fr' h'=>callA m (meAt f k) fr' (call SM f input fuel g d (meAt f k) args h')
 | a=>a
theorem stk_of_size:∀ l:List Vl,l.length≤size l:=by
 intro l
 induction l with
 | nil=>simp [size]
 | cons v l ih=>have:=width_le v;simp only [size,List.length_cons];omega
def ActL:Act Sf→Prop
 | .go fr _=>fr.stk.length≤40
 | .call _ _ fr _=>fr.stk.length≤40
 | _=>True
def ActF (fr:Sf):Act Sf→Prop
 | .call _ _ fr' _=>fr'.loc=fr.loc∧fr'.at_=fr.at_
 | _=>True
section
variable {f:Fi}{input:List Int}{fuel g d:Nat}{m:Me}{i:Ins}{fr:Sf}{h:Hp}
theorem push_l (hs:m.stack < 31) (st:List Vl) (v:Vl) (h:Hp):ActL (push m fr st v h)∧ActF fr (push m fr st v h):=by
 unfold push
 split
 ·rename_i q
  have:=stk_of_size (st++[v])
  refine ⟨?_,trivial⟩
  show (st++[v]).length≤40
  omega
 ·exact ⟨trivial,trivial⟩
theorem pop1_l (hl:fr.stk.length≤40){k:Vl→List Vl→Act Sf}(hk:∀ v st,st.length≤40→ActL (k v st)∧ActF fr (k v st)):ActL (pop1 fr h k)∧ActF fr (pop1 fr h k):=by
 unfold pop1
 split
 ·exact ⟨trivial,trivial⟩
 ·exact hk _ _ (by rw [List.length_dropLast];omega)
theorem pop2_l (hl:fr.stk.length≤40){k:Vl→Vl→List Vl→Act Sf}(hk:∀ a b st,st.length≤40→ActL (k a b st)∧ActF fr (k a b st)):ActL (pop2 fr h k)∧ActF fr (pop2 fr h k):=by
 unfold pop2
 refine pop1_l hl (fun b st hs=>?_)
 split
 ·exact ⟨trivial,trivial⟩
 ·exact hk _ _ _ (by rw [List.length_dropLast];omega)
theorem kindly_l {v:Vl}{kind:Int}{k:Act Sf}(hk:ActL k∧ActF fr k):ActL (kindly v kind h k)∧ActF fr (kindly v kind h k):=by
 unfold kindly
 split
 ·exact hk
 ·exact ⟨trivial,trivial⟩
theorem act_l {α:Type}{r:Res α}{k:α→Hp→Act Sf}(hk:∀ a h,ActL (k a h)∧ActF fr (k a h)):ActL (r.act k)∧ActF fr (r.act k):=by
 cases r with
 | ok a h=>exact hk a h
 | thrown o h=>exact ⟨trivial,trivial⟩
 | stop e h=>exact ⟨trivial,trivial⟩
theorem ite_l {c:Prop} [Decidable c] {a b:Act Sf}(ha:ActL a∧ActF fr a) (hb:ActL b∧ActF fr b):ActL (if c then a else b)∧ActF fr (if c then a else b):=by
 split
 ·exact ha
 ·exact hb
theorem l19 (hl:fr.stk.length≤40):ActL (s19 f i fr h)∧ActF fr (s19 f i fr h):=by
 unfold s19
 refine ite_l ⟨trivial,trivial⟩ ⟨?_,rfl,rfl⟩
 show (fr.stk.take _).length≤40
 rw [List.length_take];omega
theorem l20 {l:List Cls}(hl:fr.stk.length≤40):ActL (s20 l m fr h)∧ActF fr (s20 l m fr h):=by
 unfold s20
 exact ite_l ⟨trivial,trivial⟩ (pop1_l hl (fun v st hs=>ite_l ⟨trivial,trivial⟩ ⟨trivial,trivial⟩))
theorem l23 (hs:m.stack < 31) (hl:fr.stk.length≤40):ActL (s23 m fr h)∧ActF fr (s23 m fr h):=by
 unfold s23
 refine pop1_l hl (fun v st hs2=>?_)
 by_cases q:(size (st++[v,v]):Int)≤m.stack
 ·rw [if_pos q]
  have:=stk_of_size (st++[v,v])
  refine ⟨?_,trivial⟩
  show (st++[v,v]).length≤40
  omega
 ·rw [if_neg q];exact ⟨trivial,trivial⟩
theorem sstep_l (hs:m.stack < 31) (hl:fr.stk.length≤40):ActL (sstep f input m i fr h)∧ActF fr (sstep f input m i fr h):=by
 have P:=fun st v h=>push_l (fr:=fr) hs st v h
 unfold sstep
 refine ite_l (P _ _ _) ?_
 refine ite_l (P _ _ _) ?_
 refine ite_l (P _ _ _) ?_
 refine ite_l (kindly_l (P _ _ _)) ?_
 refine ite_l (pop1_l hl (fun v st hs=>kindly_l ⟨hs,trivial⟩)) ?_
 refine ite_l (pop2_l hl (fun a b st hs=>act_l (fun v h=>P _ _ _))) ?_
 refine ite_l (pop2_l hl (fun a b st hs=>act_l (fun v h=>P _ _ _))) ?_
 refine ite_l (pop1_l hl (fun v st hs=>kindly_l (P _ _ _))) ?_
 refine ite_l (pop1_l hl (fun v st hs=>kindly_l (P _ _ _))) ?_
 refine ite_l (pop2_l hl (fun a b st hs=>kindly_l (kindly_l (P _ _ _)))) ?_
 refine ite_l (⟨hl,trivial⟩) ?_
 refine ite_l (pop1_l hl (fun v st hs=>kindly_l ⟨hs,trivial⟩)) ?_
 refine ite_l (pop1_l hl (fun v st hs=>kindly_l ⟨hs,trivial⟩)) ?_
 refine ite_l (act_l (fun v h=>P _ _ _)) ?_
 refine ite_l (pop1_l hl (fun v st hs=>act_l (fun v h=>P _ _ _))) ?_
 refine ite_l (pop2_l hl (fun a b st hs=>kindly_l (act_l (fun v h=>⟨hs,trivial⟩)))) ?_
 refine ite_l (pop1_l hl (fun v st hs=>act_l (fun v h=>P _ _ _))) ?_
 refine ite_l (pop1_l hl (fun v st hs=>act_l (fun v h=>P _ _ _))) ?_
 refine ite_l (l19 hl) ?_
 refine ite_l (l20 hl) ?_
 refine ite_l (pop1_l hl (fun v st hs=>act_l (fun v h=>⟨trivial,trivial⟩))) ?_
 refine ite_l (pop1_l hl (fun v st hs=>⟨hs,trivial⟩)) ?_
 refine ite_l (l23 hs hl) ?_
 refine ite_l (pop1_l hl (fun v st hs=>act_l (fun v h=>⟨hs,trivial⟩))) ?_
 refine ite_l (act_l (fun v h=>P _ _ _)) ?_
 exact ⟨trivial,trivial⟩
def ActS (f:Fi) (input:List Int) (fuel:Nat) (m:Me) (h0:Hp):Act Sf→Prop
 | .go fr h=>(HpOk f.classes input fuel h∧h0.objs.length≤h.objs.length∧h0.steps≤h.steps)∧SfOk m h.objs.length fr∧fr.stk.length≤40
 | .back v h=>(HpOk f.classes input fuel h∧h0.objs.length≤h.objs.length∧h0.steps≤h.steps)∧RetOk m h.objs.length v
 | .thrown o h=>(HpOk f.classes input fuel h∧h0.objs.length≤h.objs.length∧h0.steps≤h.steps)∧o < h.objs.length
 | .stop _ h=>HpOk f.classes input fuel h∧h0.objs.length≤h.objs.length∧h0.steps≤h.steps
 | .call ..=>False
theorem actS_ok (K:MachOk SM SfOk f input fuel) (M:MeS f m) (hm:m∈f.methods) (hi:i∈m.code) (H:HpOk f.classes input fuel h) (ho:h.out.length < h.steps) (hf:SfOk m h.objs.length fr) (hl:fr.stk.length≤40):ActS f input fuel m h (actS f input fuel g d m i fr h):=by
 have h1:=K.step m hm i hi fr h H ho hf
 have h2:=sstep_l (f:=f) (input:=input) (i:=i) (h:=h) M.stack.2 hl
 have h1':ActOk SfOk f input fuel m h (sstep f input m i fr h):=h1
 unfold actS
 revert h1' h2
 generalize sstep f input m i fr h=a
 intro hA h1
 cases a with
 | go fr' h'=>exact ⟨⟨h1.1.1,h1.1.2.1,by rw [h1.1.2.2];exact Nat.le_refl _⟩,h1.2,hA.1⟩
 | back v h'=>exact ⟨⟨h1.1.1,h1.1.2.1,by rw [h1.1.2.2];exact Nat.le_refl _⟩,h1.2⟩
 | thrown o h'=>exact ⟨⟨h1.1.1,h1.1.2.1,by rw [h1.1.2.2];exact Nat.le_refl _⟩,h1.2⟩
 | stop e h'=>exact ⟨h1.1,h1.2.1,by rw [h1.2.2];exact Nat.le_refl _⟩
 | call k args fr' h' =>
  obtain ⟨F,hfr,hv,hal,hk⟩:=h1
  have hmem:=meAt_mem hk
  have hc:=call_ok K g d (meAt f k) args h' hmem F.1 hv hal
  show ActS f input fuel m h (callA m (meAt f k) fr' (call SM f input fuel g d (meAt f k) args h'))
  revert hc
  generalize call SM f input fuel g d (meAt f k) args h'=r
  intro hc
  have hst:h'.steps=h.steps:=F.2.2
  cases r with
  | stop e h2=>exact ⟨hc.1,by have:=hc.2.1;have:=F.2.1;omega,by have:=hc.2.2;omega⟩
  | thrown o h2=>exact ⟨⟨hc.1.1,by have:=hc.1.2.1;have:=F.2.1;omega,by have:=hc.1.2.2;omega⟩,hc.2⟩
  | ok v h2 =>
   have hb:HpOk f.classes input fuel h2∧h.objs.length≤h2.objs.length∧h.steps≤h2.steps:=⟨hc.1.1,by have:=hc.1.2.1;have:=F.2.1;omega,by have:=hc.1.2.2;omega⟩
   have hres:=K.resume m hm (meAt f k) h2.objs.length v fr'
   unfold callA
   simp only
   cases hs:sresume m (meAt f k) fr' v with
   | none=>exact hb
   | some fr2 =>
    refine ⟨hb,hres fr2 (hfr.mono hc.1.2.1) hc.2 hs,?_⟩
    unfold sresume at hs
    split at hs
    ·cases hs;exact hA.1
    ·split at hs
     ·rename_i q
      cases hs
      have:=stk_of_size (fr'.stk++[v])
      have:=M.stack.2
      show (fr'.stk++[v]).length≤40
      omega
     ·cases hs
theorem after_at {fr':Sf}{o:Nat}(h1:fr'.loc=fr.loc) (h2:fr'.at_=fr.at_):after SM f m fr' o h=after SM f m fr o h:=by
 have e1:SM.at_ fr'=SM.at_ fr:=h2
 have e2:∀ a,SM.caught m fr' a o=SM.caught m fr a o:=fun a=>by
  show scaught m fr' a o=scaught m fr a o
  unfold scaught on;rw [h1]
 unfold after
 rw [e1]
 simp only [e2]
def roundS (f:Fi) (input:List Int) (fuel g d:Nat) (m:Me) (fr:Sf) (a:Act Sf):Res Vl:=match a with
 | .stop e h=>.stop e h
 | .back v h=>.ok v h
 | .go fr h=>loop SM f input fuel g d m fr h
 | .thrown o h=>(match after SM f m fr o h with
  | .go fr=>loop SM f input fuel g d m fr h
  | .thrown=>.thrown o h
  | .stuck=>.stop 6 h)
 | .call ..=>.stop 6 h0
where h0:Hp:=⟨[],[],0,0⟩
theorem loop_actS (hs:h.steps < fuel) (hi:m.code[fr.at_]? = some i) (M:m.stack < 31) (hl:fr.stk.length≤40):loop SM f input fuel (g+1) d m fr h=roundS f input fuel g d m fr (actS f input fuel g d m i fr { h with steps:=h.steps+1 }):=by
 have hF:=(sstep_l (f:=f) (input:=input) (i:=i) (h:={ h with steps:=h.steps+1 }) (fr:=fr) M hl).2
 by_cases hc:∃ k args fr' h',sstep f input m i fr { h with steps:=h.steps+1 } = .call k args fr' h'
 ·obtain ⟨k,args,fr',h',hst⟩:=hc
  rw [hst] at hF
  have e:=loop_call SM f input fuel g d m fr h hs hi hst
  rw [e]
  unfold actS
  rw [hst]
  simp only
  cases call SM f input fuel g d (meAt f k) args h' with
  | stop e h2=>rfl
  | thrown o h2 =>
   show _=(match after SM f m fr o h2 with | .go fr=>loop SM f input fuel g d m fr h2 | .thrown=>.thrown o h2 | .stuck=>.stop 6 h2)
   simp only
   rw [after_at hF.1 hF.2]
   cases after SM f m fr o h2 <;> rfl
  | ok v h2 =>
   have e3:SM.resume m (meAt f k) fr' v=sresume m (meAt f k) fr' v:=rfl
   simp only [callA,e3]
   cases sresume m (meAt f k) fr' v <;> rfl
 ·have e:loop SM f input fuel (g+1) d m fr h=roundS f input fuel g d m fr (sstep f input m i fr { h with steps:=h.steps+1 }):=by
   rw [loop,if_neg (by omega)]
   have ea:m.code[SM.at_ fr]? = some i:=hi
   rw [ea]
   have es:SM.step f input m i fr { h with steps:=h.steps+1 } = sstep f input m i fr { h with steps:=h.steps+1 }:=rfl
   simp only [es]
   cases hst:sstep f input m i fr { h with steps:=h.steps+1 } with
   | stop e h2=>rfl
   | back v h2=>rfl
   | go fr' h2=>rfl
   | thrown o h2 =>
    simp only [roundS]
    cases after SM f m fr o h2 <;> rfl
   | call k args fr' h'=>exact absurd ⟨k,args,fr',h',hst⟩ hc
  rw [e]
  congr 1
  unfold actS
  split
  ·rename_i hst;exact absurd ⟨_,_,_,_,hst⟩ hc
  ·rfl
end
end Run
end Go.Proofs.YtncmhenfgbcihabGreat
