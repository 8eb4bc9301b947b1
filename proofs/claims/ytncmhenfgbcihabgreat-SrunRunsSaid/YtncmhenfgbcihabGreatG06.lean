/- Parts of the proof: Rt7, RunU, Ru, Rv0. -/
import Derived.Test.YtncmhenfgbcihabGreatG04
import Derived.Test.YtncmhenfgbcihabGreatG05
import Derived.StillTailTactics
set_option linter.unusedSimpArgs false
set_option linter.unusedVariables false
set_option maxHeartbeats 8000000
namespace Go.Proofs.YtncmhenfgbcihabGreat
open Go.RowKit
namespace Rhw
open Num Rd D Run Mem HierW Hpw
section
variable {E:Ev}{w w' w2:World}{L L' L2:RL}{h h':Hp}{d:Nat}{s:Sv}{P:Pl}{m:Me}{fr fr':Sf}{vs vs2:Value}
theorem callA_void {m m2:Me}{fr:Sf}{x:Vl}{h:Hp}(hr:m2.ret.kind=0):callA m m2 fr (.ok x h)=.go (on fr fr.stk (fr.at_+1)) h:=by
 simp only [callA,sresume,if_pos hr]
theorem callA_fit {m m2:Me}{fr:Sf}{x:Vl}{h:Hp}(hr:m2.ret.kind≠0) (q:(size (fr.stk++[x]):Int)≤m.stack):callA m m2 fr (.ok x h)=.go (on fr (fr.stk++[x]) (fr.at_+1)) h:=by
 simp only [callA,sresume,if_neg hr,if_pos q]
theorem callA_no {m m2:Me}{fr:Sf}{x:Vl}{h:Hp}(hr:m2.ret.kind≠0) (q:¬ (size (fr.stk++[x]):Int)≤m.stack):callA m m2 fr (.ok x h)=.stop 6 h:=by
 simp only [callA,sresume,if_neg hr,if_neg q]
set_option maxRecDepth 100000 in
theorem do19S (H:RH E w L h d Sv.run) (F:Fr E w L P m fr vs) (hl:fr.stk.length≤500) (hat:fr.at_≤100000) (a b c n:Int) (va:Value) (m2:Me) (ha:0≤a) (hk:a.toNat < E.f.methods.length) (hm2:meAt E.f a.toNat=m2) (h4:m2.params.length≤4) (hlen:fr.stk.length < m2.params.length) :
  Calls Tryz.prog 66 #[.pointer (some ⟨E.hb,0,none⟩),.pointer (some ⟨P.cb,0,none⟩),.agg #[.int .i64 19,.int .i64 a,.int .i64 b,.int .i64 c,.int .i64 n,va]] w (ActR E L P m d fr w (.stop 6 h)):=by
 have hKX:∀ k,KX E L P k→k < w.heap.size:=fun k hk=>by
  rcases hk with hk | hk | hk
  ·exact (own_lo H.rows hk).2
  ·rw [hk];exact F.cbw
  ·rw [hk];exact F.lbw
 have HH:=Lib.hid H
 have hhb0:E.hb < w.heap.size:=H.rows.base.2
 have hhb1:E.hb < w.heap.size+1:=by omega
 have hcb0:P.cb < w.heap.size:=F.cbw
 have c10:=F.c10
 obtain ⟨Z,hZ⟩:∃ Z:Nat→Prop,Hid (Z=fun k=>P.Z k∨k=w.heap.size):=⟨_,rfl⟩
 have HB0:Below w.heap.size w (w.alloc (.cells #[.int .i64 19,.int .i64 a,.int .i64 b,.int .i64 c,.int .i64 n,va] 66)):=by exact Rd.byB
 have H0:=Lib.hid (H.below HB0)
 have F0:=Lib.hid (F.zone HB0 Z (fun k hk=>by rw [hZ.out] at hk;rcases hk with q | q;exact .inl q;exact .inr (by omega)) (fun k hk=>by rw [hZ.out] at hk;rcases hk with q | q;exact Nat.lt_of_lt_of_le (F.zlt k q) HB0.size;(simp;omega)))
 have nx0:¬ KX E L (P.zone Z) w.heap.size:=fun hk=>by have:=hKX _ hk;omega
 have zp:Hid (∀ k,P.Z k→Z k):=fun k hk=>by rw [hZ.out];exact .inl hk
 have hkx:=Lib.hid hKX
 have KB0:=Lib.hid (kpB (X:=KX E L P) HB0)
 clear H F hZ HB0 hKX
 obtain ⟨k,rfl⟩:=Int.eq_ofNat_of_zero_le ha
 rw [Int.toNat_natCast] at hk hm2
 obtain ⟨ma,mcap,hvm,p1,p2,mel⟩:=id HH.out.rows.mes
 obtain ⟨mb,mo,rfl,hmb,me⟩:=mel k hk
 have hm3:E.f.methods[k]=m2:=by rw [← hm2];unfold meAt;rw [List.getD_eq_getElem?_getD,List.getElem?_eq_getElem hk];rfl
 rw [hm3] at me
 obtain ⟨vp,vc,vh,e0,e1,e2,e3,e4,e5,e6,e7,e8,e9,e10,e11⟩:=me
 obtain ⟨pa,pcap,rfl,pp1,pp2,pel⟩:=id e9
 obtain ⟨ia,icap,rfl,ii1,ii2,iel⟩:=id e10
 obtain ⟨xa,xcap,rfl,xx1,xx2,xel⟩:=id e11
 have b1:w.cell? ⟨E.hb,1,none⟩=some (.slice (some ⟨mb,mo,none⟩) E.f.methods.length mcap):=by rw [← hvm];exact HH.out.c1
 have hki:(k:Int) < E.f.methods.length:=by omega
 have hEB:E.B≤w.heap.size:=by have:=HH.out.rows.base;omega
 have lmb:mb < w.heap.size:=by omega
 have hmv:=Lib.hid (show VMe w E.B (.agg #[.slice pa m2.params.length pcap,.int .i64 m2.ret.kind,.int .i64 m2.ret.cls,.int .i64 m2.stack,.int .i64 m2.locals,.int .i64 m2.regs,.slice ia m2.code.length icap,.slice xa m2.handlers.length xcap]) m2 from ⟨_,_,_,rfl,e8,e9,e10,e11⟩)
 replace hm2:=Lib.hid hm2
 clear mel hm3 e8 e9 e10 e11 pel iel xel hvm
 skip
 ·go_enter Tryz.func66,Tryz.ntmps66
  go_wp2
  have a1:(w.alloc (.cells #[.int .i64 19,.int .i64 (k:Int),.int .i64 b,.int .i64 c,.int .i64 n,va] 66)).cell? ⟨E.hb,1,none⟩=some (.slice (some ⟨mb,mo,none⟩) E.f.methods.length mcap):=by go_simp
  have j1:(w.alloc (.cells #[.int .i64 19,.int .i64 (k:Int),.int .i64 b,.int .i64 c,.int .i64 n,va] 66)).cell? ⟨w.heap.size,1,none⟩=some (.int .i64 (k:Int)):=by go_simp
  have g0:(w.alloc (.cells #[.int .i64 19,.int .i64 (k:Int),.int .i64 b,.int .i64 c,.int .i64 n,va] 66)).cell? ⟨mb,mo+k*8,none⟩=some (.slice pa m2.params.length pcap):=by go_simp
  have g1:(w.alloc (.cells #[.int .i64 19,.int .i64 (k:Int),.int .i64 b,.int .i64 c,.int .i64 n,va] 66)).cell? ⟨mb,mo+k*8+1,none⟩=some (.int .i64 m2.ret.kind):=by go_simp
  have g2:(w.alloc (.cells #[.int .i64 19,.int .i64 (k:Int),.int .i64 b,.int .i64 c,.int .i64 n,va] 66)).cell? ⟨mb,mo+k*8+2,none⟩=some (.int .i64 m2.ret.cls):=by go_simp
  have g3:(w.alloc (.cells #[.int .i64 19,.int .i64 (k:Int),.int .i64 b,.int .i64 c,.int .i64 n,va] 66)).cell? ⟨mb,mo+k*8+3,none⟩=some (.int .i64 m2.stack):=by go_simp
  have g4:(w.alloc (.cells #[.int .i64 19,.int .i64 (k:Int),.int .i64 b,.int .i64 c,.int .i64 n,va] 66)).cell? ⟨mb,mo+k*8+4,none⟩=some (.int .i64 m2.locals):=by go_simp
  have g5:(w.alloc (.cells #[.int .i64 19,.int .i64 (k:Int),.int .i64 b,.int .i64 c,.int .i64 n,va] 66)).cell? ⟨mb,mo+k*8+5,none⟩=some (.int .i64 m2.regs):=by go_simp
  have g6:(w.alloc (.cells #[.int .i64 19,.int .i64 (k:Int),.int .i64 b,.int .i64 c,.int .i64 n,va] 66)).cell? ⟨mb,mo+k*8+6,none⟩=some (.slice ia m2.code.length icap):=by go_simp
  have g7:(w.alloc (.cells #[.int .i64 19,.int .i64 (k:Int),.int .i64 b,.int .i64 c,.int .i64 n,va] 66)).cell? ⟨mb,mo+k*8+7,none⟩=some (.slice xa m2.handlers.length xcap):=by go_simp
  have sz:w.heap.size < (w.alloc (.cells #[.int .i64 19,.int .i64 (k:Int),.int .i64 b,.int .i64 c,.int .i64 n,va] 66)).heap.size:=by simp
  generalize w.alloc (.cells #[.int .i64 19,.int .i64 (k:Int),.int .i64 b,.int .i64 c,.int .i64 n,va] 66)=W1 at a1 j1 g0 g1 g2 g3 g4 g5 g6 g7 sz H0 F0 KB0 ⊢
  have lcb:P.cb < W1.heap.size:=by omega
  have lhb:E.hb < W1.heap.size:=by omega
  have lmb1:mb < W1.heap.size:=by omega
  clear e0 e1 e2 e3 e4 e5 e6 e7 b1 c10
  go_region
  have FD0:=Lib.hid (F0.out.below (w':=(W1.alloc (.cells #[.slice pa m2.params.length pcap,.int .i64 m2.ret.kind,.int .i64 m2.ret.cls,.int .i64 m2.stack,.int .i64 m2.locals,.int .i64 m2.regs,.slice ia m2.code.length icap,.slice xa m2.handlers.length xcap] 54)).drew) (by exact Rd.byB))
  have HD0:=Lib.hid (H0.out.below (w':=(W1.alloc (.cells #[.slice pa m2.params.length pcap,.int .i64 m2.ret.kind,.int .i64 m2.ret.cls,.int .i64 m2.stack,.int .i64 m2.locals,.int .i64 m2.regs,.slice ia m2.code.length icap,.slice xa m2.handlers.length xcap] 54)).drew) (by exact Rd.byB))
  have KD0:=Lib.hid (kb (w2:=(W1.alloc (.cells #[.slice pa m2.params.length pcap,.int .i64 m2.ret.kind,.int .i64 m2.ret.cls,.int .i64 m2.stack,.int .i64 m2.locals,.int .i64 m2.regs,.slice ia m2.code.length icap,.slice xa m2.handlers.length xcap] 54)).drew) KB0.out (by exact Rd.byB))
  go_wp2_with (go_at_call 64;refine (takeStuck HD0.out FD0.out m2.params.length hlen h4 _ rfl).mono ?_;rintro e w1 ⟨vt,vs1,rfl,V1,F1,H1,K1⟩;have c12:=H1.c12;replace H1:=Lib.hid H1;replace K1:=Lib.hid K1;replace F1:=Lib.hid F1;replace V1:=Lib.hid V1)
  go_ret
  exact act_stop rfl (KD0.out.trans K1.out (fun _ h=>.inl h)) same_own H1.out
set_option maxRecDepth 100000 in
theorem do19V (H:RH E w L h d Sv.run) (F:Fr E w L P m fr vs) (hl:fr.stk.length≤500) (hat:fr.at_≤100000) (a b c n:Int) (va:Value) (m2:Me) (ha:0≤a) (hk:a.toNat < E.f.methods.length) (hm2:meAt E.f a.toNat=m2) (hlen:m2.params.length≤fr.stk.length) (x:Vl) (h':Hp) (hr:m2.ret.kind=0) (HRun:∀ (W:World) (mv va:Value) (X:Nat→Prop),RH E W L h d Sv.run→VMe W E.B mv m2→VS W X va (fr.stk.drop (fr.stk.length - m2.params.length))→(∀ k,own E L k→X k)→Calls Tryz.prog 32 #[.pointer (some ⟨E.hb,0,none⟩),mv,va] W (RRv E L d W (.ok x h'))) :
  Calls Tryz.prog 66 #[.pointer (some ⟨E.hb,0,none⟩),.pointer (some ⟨P.cb,0,none⟩),.agg #[.int .i64 19,.int .i64 a,.int .i64 b,.int .i64 c,.int .i64 n,va]] w (ActR E L P m d fr w (callA m m2 (on fr (fr.stk.take (fr.stk.length - m2.params.length)) fr.at_) (.ok x h'))):=by
 have hKX:∀ k,KX E L P k→k < w.heap.size:=fun k hk=>by
  rcases hk with hk | hk | hk
  ·exact (own_lo H.rows hk).2
  ·rw [hk];exact F.cbw
  ·rw [hk];exact F.lbw
 have HH:=Lib.hid H
 have hhb0:E.hb < w.heap.size:=H.rows.base.2
 have hhb1:E.hb < w.heap.size+1:=by omega
 have hcb0:P.cb < w.heap.size:=F.cbw
 have c10:=F.c10
 obtain ⟨Z,hZ⟩:∃ Z:Nat→Prop,Hid (Z=fun k=>P.Z k∨k=w.heap.size):=⟨_,rfl⟩
 have HB0:Below w.heap.size w (w.alloc (.cells #[.int .i64 19,.int .i64 a,.int .i64 b,.int .i64 c,.int .i64 n,va] 66)):=by exact Rd.byB
 have H0:=Lib.hid (H.below HB0)
 have F0:=Lib.hid (F.zone HB0 Z (fun k hk=>by rw [hZ.out] at hk;rcases hk with q | q;exact .inl q;exact .inr (by omega)) (fun k hk=>by rw [hZ.out] at hk;rcases hk with q | q;exact Nat.lt_of_lt_of_le (F.zlt k q) HB0.size;(simp;omega)))
 have nx0:¬ KX E L (P.zone Z) w.heap.size:=fun hk=>by have:=hKX _ hk;omega
 have zp:Hid (∀ k,P.Z k→Z k):=fun k hk=>by rw [hZ.out];exact .inl hk
 have hkx:=Lib.hid hKX
 have KB0:=Lib.hid (kpB (X:=KX E L P) HB0)
 clear H F hZ HB0 hKX
 replace HRun:=Lib.hid HRun
 have hrb:(m2.ret.kind != 0)=false:=by simpa using hr
 have HRr:=Lib.hid hr
 clear hr
 obtain ⟨k,rfl⟩:=Int.eq_ofNat_of_zero_le ha
 rw [Int.toNat_natCast] at hk hm2
 obtain ⟨ma,mcap,hvm,p1,p2,mel⟩:=id HH.out.rows.mes
 obtain ⟨mb,mo,rfl,hmb,me⟩:=mel k hk
 have hm3:E.f.methods[k]=m2:=by rw [← hm2];unfold meAt;rw [List.getD_eq_getElem?_getD,List.getElem?_eq_getElem hk];rfl
 rw [hm3] at me
 obtain ⟨vp,vc,vh,e0,e1,e2,e3,e4,e5,e6,e7,e8,e9,e10,e11⟩:=me
 obtain ⟨pa,pcap,rfl,pp1,pp2,pel⟩:=id e9
 obtain ⟨ia,icap,rfl,ii1,ii2,iel⟩:=id e10
 obtain ⟨xa,xcap,rfl,xx1,xx2,xel⟩:=id e11
 have b1:w.cell? ⟨E.hb,1,none⟩=some (.slice (some ⟨mb,mo,none⟩) E.f.methods.length mcap):=by rw [← hvm];exact HH.out.c1
 have hki:(k:Int) < E.f.methods.length:=by omega
 have hEB:E.B≤w.heap.size:=by have:=HH.out.rows.base;omega
 have lmb:mb < w.heap.size:=by omega
 have hmv:=Lib.hid (show VMe w E.B (.agg #[.slice pa m2.params.length pcap,.int .i64 m2.ret.kind,.int .i64 m2.ret.cls,.int .i64 m2.stack,.int .i64 m2.locals,.int .i64 m2.regs,.slice ia m2.code.length icap,.slice xa m2.handlers.length xcap]) m2 from ⟨_,_,_,rfl,e8,e9,e10,e11⟩)
 replace hm2:=Lib.hid hm2
 clear mel hm3 e8 e9 e10 e11 pel iel xel hvm
 have hlo:Hid (∀ k,KX E L P k→E.B≤k):=fun k hk=>by
  rcases hk with hk | hk | hk
  ·exact (own_lo HH.out.rows hk).1
  ·rw [hk];exact F0.out.lo.1
  ·rw [hk];exact F0.out.lo.2
 skip
 ·go_enter Tryz.func66,Tryz.ntmps66
  go_wp2
  have a1:(w.alloc (.cells #[.int .i64 19,.int .i64 (k:Int),.int .i64 b,.int .i64 c,.int .i64 n,va] 66)).cell? ⟨E.hb,1,none⟩=some (.slice (some ⟨mb,mo,none⟩) E.f.methods.length mcap):=by go_simp
  have j1:(w.alloc (.cells #[.int .i64 19,.int .i64 (k:Int),.int .i64 b,.int .i64 c,.int .i64 n,va] 66)).cell? ⟨w.heap.size,1,none⟩=some (.int .i64 (k:Int)):=by go_simp
  have g0:(w.alloc (.cells #[.int .i64 19,.int .i64 (k:Int),.int .i64 b,.int .i64 c,.int .i64 n,va] 66)).cell? ⟨mb,mo+k*8,none⟩=some (.slice pa m2.params.length pcap):=by go_simp
  have g1:(w.alloc (.cells #[.int .i64 19,.int .i64 (k:Int),.int .i64 b,.int .i64 c,.int .i64 n,va] 66)).cell? ⟨mb,mo+k*8+1,none⟩=some (.int .i64 m2.ret.kind):=by go_simp
  have g2:(w.alloc (.cells #[.int .i64 19,.int .i64 (k:Int),.int .i64 b,.int .i64 c,.int .i64 n,va] 66)).cell? ⟨mb,mo+k*8+2,none⟩=some (.int .i64 m2.ret.cls):=by go_simp
  have g3:(w.alloc (.cells #[.int .i64 19,.int .i64 (k:Int),.int .i64 b,.int .i64 c,.int .i64 n,va] 66)).cell? ⟨mb,mo+k*8+3,none⟩=some (.int .i64 m2.stack):=by go_simp
  have g4:(w.alloc (.cells #[.int .i64 19,.int .i64 (k:Int),.int .i64 b,.int .i64 c,.int .i64 n,va] 66)).cell? ⟨mb,mo+k*8+4,none⟩=some (.int .i64 m2.locals):=by go_simp
  have g5:(w.alloc (.cells #[.int .i64 19,.int .i64 (k:Int),.int .i64 b,.int .i64 c,.int .i64 n,va] 66)).cell? ⟨mb,mo+k*8+5,none⟩=some (.int .i64 m2.regs):=by go_simp
  have g6:(w.alloc (.cells #[.int .i64 19,.int .i64 (k:Int),.int .i64 b,.int .i64 c,.int .i64 n,va] 66)).cell? ⟨mb,mo+k*8+6,none⟩=some (.slice ia m2.code.length icap):=by go_simp
  have g7:(w.alloc (.cells #[.int .i64 19,.int .i64 (k:Int),.int .i64 b,.int .i64 c,.int .i64 n,va] 66)).cell? ⟨mb,mo+k*8+7,none⟩=some (.slice xa m2.handlers.length xcap):=by go_simp
  have sz:w.heap.size < (w.alloc (.cells #[.int .i64 19,.int .i64 (k:Int),.int .i64 b,.int .i64 c,.int .i64 n,va] 66)).heap.size:=by simp
  generalize w.alloc (.cells #[.int .i64 19,.int .i64 (k:Int),.int .i64 b,.int .i64 c,.int .i64 n,va] 66)=W1 at a1 j1 g0 g1 g2 g3 g4 g5 g6 g7 sz H0 F0 KB0 ⊢
  have lcb:P.cb < W1.heap.size:=by omega
  have lhb:E.hb < W1.heap.size:=by omega
  have lmb1:mb < W1.heap.size:=by omega
  clear e0 e1 e2 e3 e4 e5 e6 e7 b1 c10
  go_region
  have FD0:=Lib.hid (F0.out.below (w':=(W1.alloc (.cells #[.slice pa m2.params.length pcap,.int .i64 m2.ret.kind,.int .i64 m2.ret.cls,.int .i64 m2.stack,.int .i64 m2.locals,.int .i64 m2.regs,.slice ia m2.code.length icap,.slice xa m2.handlers.length xcap] 54)).drew) (by exact Rd.byB))
  have HD0:=Lib.hid (H0.out.below (w':=(W1.alloc (.cells #[.slice pa m2.params.length pcap,.int .i64 m2.ret.kind,.int .i64 m2.ret.cls,.int .i64 m2.stack,.int .i64 m2.locals,.int .i64 m2.regs,.slice ia m2.code.length icap,.slice xa m2.handlers.length xcap] 54)).drew) (by exact Rd.byB))
  have KD0:=Lib.hid (kb (w2:=(W1.alloc (.cells #[.slice pa m2.params.length pcap,.int .i64 m2.ret.kind,.int .i64 m2.ret.cls,.int .i64 m2.stack,.int .i64 m2.locals,.int .i64 m2.regs,.slice ia m2.code.length icap,.slice xa m2.handlers.length xcap] 54)).drew) KB0.out (by exact Rd.byB))
  have nxm:¬ KX E L (P.zone Z) W1.heap.size:=fun hk=>by have:=hkx.out _ hk;omega
  go_wp2_with (first | (go_at_call 64;refine (takeOk HD0.out FD0.out m2.params.length hlen (by omega)).mono ?_;rintro e w1 ⟨vt,vs1,rfl,V1,F1,H1,K1⟩;have c12:=H1.c12;have o0:=K1.cell (c:=W1.heap.size) (o:=0) (v:=.slice pa m2.params.length pcap) (by go_simp) nxm;have o1:=K1.cell (c:=W1.heap.size) (o:=1) (v:=.int .i64 m2.ret.kind) (by go_simp) nxm;have o2:=K1.cell (c:=W1.heap.size) (o:=2) (v:=.int .i64 m2.ret.cls) (by go_simp) nxm;have o3:=K1.cell (c:=W1.heap.size) (o:=3) (v:=.int .i64 m2.stack) (by go_simp) nxm;have o4:=K1.cell (c:=W1.heap.size) (o:=4) (v:=.int .i64 m2.locals) (by go_simp) nxm;have o5:=K1.cell (c:=W1.heap.size) (o:=5) (v:=.int .i64 m2.regs) (by go_simp) nxm;have o6:=K1.cell (c:=W1.heap.size) (o:=6) (v:=.slice ia m2.code.length icap) (by go_simp) nxm;have o7:=K1.cell (c:=W1.heap.size) (o:=7) (v:=.slice xa m2.handlers.length xcap) (by go_simp) nxm;have sz1:W1.heap.size < w1.heap.size:=(by have:=K1.size;simp at this;omega);replace H1:=Lib.hid H1;replace K1:=Lib.hid (KD0.out.trans K1 (fun _ h=>.inl h));replace F1:=Lib.hid F1;replace V1:=Lib.hid V1) | (go_at_call 32;refine (HRun.out _ _ _ (FX E L (P.zone Z)) H1.out (hmv.out.mono (K1.out.below hEB hlo.out) (Nat.le_refl _)) V1.out (fun _ hk=>.inl (.inl hk))).mono ?_;rintro e w2 HR2;obtain ⟨rk,rn,rfl,R2⟩:=rrv_m HR2;clear HR2;have KK:=rrm_kp R2;have o1e:=KK.cell o1 (fun hk=>nxm (.inl hk));have sz2:=KK.size;have sz3:W1.heap.size < w2.heap.size:=Nat.lt_of_lt_of_le sz1 sz2;obtain ⟨⟨rfl,rfl⟩,L2,K2,N2,H2⟩:=R2;replace K2:=Lib.hid K2;replace N2:=Lib.hid N2;replace H2:=Lib.hid H2;have F2:=Lib.hid (F1.out.heap K2.out N2.out)) | (go_at_call 116;refine (stopsF (H2.out.below (by exact Rd.byB)) rfl).mono ?_;rintro e w3 ⟨rfl,rfl⟩))
  go_ret
  exact act_go (callA_void HRr.out) (by simp [on]) (kb (K1.out.trans K2.out (fun _ hy=>.inl (.inl hy))) (by exact Rd.byB)) (fun k hk=>(N2.out k hk).imp_right (fun q=>by first | omega | (simp at q;omega))) (H2.out.below (by exact Rd.byB)) ((F2.out.below (by exact Rd.byB)).unzone zp.out)
set_option maxRecDepth 100000 in
theorem do19R (H:RH E w L h d Sv.run) (F:Fr E w L P m fr vs) (hl:fr.stk.length≤500) (hat:fr.at_≤100000) (a b c n:Int) (va:Value) (m2:Me) (ha:0≤a) (hk:a.toNat < E.f.methods.length) (hm2:meAt E.f a.toNat=m2) (hlen:m2.params.length≤fr.stk.length) (x:Vl) (h':Hp) (hr:m2.ret.kind≠0) (HRun:∀ (W:World) (mv va:Value) (X:Nat→Prop),RH E W L h d Sv.run→VMe W E.B mv m2→VS W X va (fr.stk.drop (fr.stk.length - m2.params.length))→(∀ k,own E L k→X k)→Calls Tryz.prog 32 #[.pointer (some ⟨E.hb,0,none⟩),mv,va] W (RRv E L d W (.ok x h'))) :
  Calls Tryz.prog 66 #[.pointer (some ⟨E.hb,0,none⟩),.pointer (some ⟨P.cb,0,none⟩),.agg #[.int .i64 19,.int .i64 a,.int .i64 b,.int .i64 c,.int .i64 n,va]] w (ActR E L P m d fr w (callA m m2 (on fr (fr.stk.take (fr.stk.length - m2.params.length)) fr.at_) (.ok x h'))):=by
 have hKX:∀ k,KX E L P k→k < w.heap.size:=fun k hk=>by
  rcases hk with hk | hk | hk
  ·exact (own_lo H.rows hk).2
  ·rw [hk];exact F.cbw
  ·rw [hk];exact F.lbw
 have HH:=Lib.hid H
 have hhb0:E.hb < w.heap.size:=H.rows.base.2
 have hhb1:E.hb < w.heap.size+1:=by omega
 have hcb0:P.cb < w.heap.size:=F.cbw
 have c10:=F.c10
 obtain ⟨Z,hZ⟩:∃ Z:Nat→Prop,Hid (Z=fun k=>P.Z k∨k=w.heap.size):=⟨_,rfl⟩
 have HB0:Below w.heap.size w (w.alloc (.cells #[.int .i64 19,.int .i64 a,.int .i64 b,.int .i64 c,.int .i64 n,va] 66)):=by exact Rd.byB
 have H0:=Lib.hid (H.below HB0)
 have F0:=Lib.hid (F.zone HB0 Z (fun k hk=>by rw [hZ.out] at hk;rcases hk with q | q;exact .inl q;exact .inr (by omega)) (fun k hk=>by rw [hZ.out] at hk;rcases hk with q | q;exact Nat.lt_of_lt_of_le (F.zlt k q) HB0.size;(simp;omega)))
 have nx0:¬ KX E L (P.zone Z) w.heap.size:=fun hk=>by have:=hKX _ hk;omega
 have zp:Hid (∀ k,P.Z k→Z k):=fun k hk=>by rw [hZ.out];exact .inl hk
 have hkx:=Lib.hid hKX
 have KB0:=Lib.hid (kpB (X:=KX E L P) HB0)
 clear H F hZ HB0 hKX
 replace HRun:=Lib.hid HRun
 have hrb:(m2.ret.kind != 0)=true:=by simpa using hr
 have HRr:=Lib.hid hrb
 clear hr
 obtain ⟨k,rfl⟩:=Int.eq_ofNat_of_zero_le ha
 rw [Int.toNat_natCast] at hk hm2
 obtain ⟨ma,mcap,hvm,p1,p2,mel⟩:=id HH.out.rows.mes
 obtain ⟨mb,mo,rfl,hmb,me⟩:=mel k hk
 have hm3:E.f.methods[k]=m2:=by rw [← hm2];unfold meAt;rw [List.getD_eq_getElem?_getD,List.getElem?_eq_getElem hk];rfl
 rw [hm3] at me
 obtain ⟨vp,vc,vh,e0,e1,e2,e3,e4,e5,e6,e7,e8,e9,e10,e11⟩:=me
 obtain ⟨pa,pcap,rfl,pp1,pp2,pel⟩:=id e9
 obtain ⟨ia,icap,rfl,ii1,ii2,iel⟩:=id e10
 obtain ⟨xa,xcap,rfl,xx1,xx2,xel⟩:=id e11
 have b1:w.cell? ⟨E.hb,1,none⟩=some (.slice (some ⟨mb,mo,none⟩) E.f.methods.length mcap):=by rw [← hvm];exact HH.out.c1
 have hki:(k:Int) < E.f.methods.length:=by omega
 have hEB:E.B≤w.heap.size:=by have:=HH.out.rows.base;omega
 have lmb:mb < w.heap.size:=by omega
 have hmv:=Lib.hid (show VMe w E.B (.agg #[.slice pa m2.params.length pcap,.int .i64 m2.ret.kind,.int .i64 m2.ret.cls,.int .i64 m2.stack,.int .i64 m2.locals,.int .i64 m2.regs,.slice ia m2.code.length icap,.slice xa m2.handlers.length xcap]) m2 from ⟨_,_,_,rfl,e8,e9,e10,e11⟩)
 replace hm2:=Lib.hid hm2
 clear mel hm3 e8 e9 e10 e11 pel iel xel hvm
 have hlo:Hid (∀ k,KX E L P k→E.B≤k):=fun k hk=>by
  rcases hk with hk | hk | hk
  ·exact (own_lo HH.out.rows hk).1
  ·rw [hk];exact F0.out.lo.1
  ·rw [hk];exact F0.out.lo.2
 skip
 ·go_enter Tryz.func66,Tryz.ntmps66
  go_wp2
  have a1:(w.alloc (.cells #[.int .i64 19,.int .i64 (k:Int),.int .i64 b,.int .i64 c,.int .i64 n,va] 66)).cell? ⟨E.hb,1,none⟩=some (.slice (some ⟨mb,mo,none⟩) E.f.methods.length mcap):=by go_simp
  have j1:(w.alloc (.cells #[.int .i64 19,.int .i64 (k:Int),.int .i64 b,.int .i64 c,.int .i64 n,va] 66)).cell? ⟨w.heap.size,1,none⟩=some (.int .i64 (k:Int)):=by go_simp
  have g0:(w.alloc (.cells #[.int .i64 19,.int .i64 (k:Int),.int .i64 b,.int .i64 c,.int .i64 n,va] 66)).cell? ⟨mb,mo+k*8,none⟩=some (.slice pa m2.params.length pcap):=by go_simp
  have g1:(w.alloc (.cells #[.int .i64 19,.int .i64 (k:Int),.int .i64 b,.int .i64 c,.int .i64 n,va] 66)).cell? ⟨mb,mo+k*8+1,none⟩=some (.int .i64 m2.ret.kind):=by go_simp
  have g2:(w.alloc (.cells #[.int .i64 19,.int .i64 (k:Int),.int .i64 b,.int .i64 c,.int .i64 n,va] 66)).cell? ⟨mb,mo+k*8+2,none⟩=some (.int .i64 m2.ret.cls):=by go_simp
  have g3:(w.alloc (.cells #[.int .i64 19,.int .i64 (k:Int),.int .i64 b,.int .i64 c,.int .i64 n,va] 66)).cell? ⟨mb,mo+k*8+3,none⟩=some (.int .i64 m2.stack):=by go_simp
  have g4:(w.alloc (.cells #[.int .i64 19,.int .i64 (k:Int),.int .i64 b,.int .i64 c,.int .i64 n,va] 66)).cell? ⟨mb,mo+k*8+4,none⟩=some (.int .i64 m2.locals):=by go_simp
  have g5:(w.alloc (.cells #[.int .i64 19,.int .i64 (k:Int),.int .i64 b,.int .i64 c,.int .i64 n,va] 66)).cell? ⟨mb,mo+k*8+5,none⟩=some (.int .i64 m2.regs):=by go_simp
  have g6:(w.alloc (.cells #[.int .i64 19,.int .i64 (k:Int),.int .i64 b,.int .i64 c,.int .i64 n,va] 66)).cell? ⟨mb,mo+k*8+6,none⟩=some (.slice ia m2.code.length icap):=by go_simp
  have g7:(w.alloc (.cells #[.int .i64 19,.int .i64 (k:Int),.int .i64 b,.int .i64 c,.int .i64 n,va] 66)).cell? ⟨mb,mo+k*8+7,none⟩=some (.slice xa m2.handlers.length xcap):=by go_simp
  have sz:w.heap.size < (w.alloc (.cells #[.int .i64 19,.int .i64 (k:Int),.int .i64 b,.int .i64 c,.int .i64 n,va] 66)).heap.size:=by simp
  generalize w.alloc (.cells #[.int .i64 19,.int .i64 (k:Int),.int .i64 b,.int .i64 c,.int .i64 n,va] 66)=W1 at a1 j1 g0 g1 g2 g3 g4 g5 g6 g7 sz H0 F0 KB0 ⊢
  have lcb:P.cb < W1.heap.size:=by omega
  have lhb:E.hb < W1.heap.size:=by omega
  have lmb1:mb < W1.heap.size:=by omega
  clear e0 e1 e2 e3 e4 e5 e6 e7 b1 c10
  go_region
  have FD0:=Lib.hid (F0.out.below (w':=(W1.alloc (.cells #[.slice pa m2.params.length pcap,.int .i64 m2.ret.kind,.int .i64 m2.ret.cls,.int .i64 m2.stack,.int .i64 m2.locals,.int .i64 m2.regs,.slice ia m2.code.length icap,.slice xa m2.handlers.length xcap] 54)).drew) (by exact Rd.byB))
  have HD0:=Lib.hid (H0.out.below (w':=(W1.alloc (.cells #[.slice pa m2.params.length pcap,.int .i64 m2.ret.kind,.int .i64 m2.ret.cls,.int .i64 m2.stack,.int .i64 m2.locals,.int .i64 m2.regs,.slice ia m2.code.length icap,.slice xa m2.handlers.length xcap] 54)).drew) (by exact Rd.byB))
  have KD0:=Lib.hid (kb (w2:=(W1.alloc (.cells #[.slice pa m2.params.length pcap,.int .i64 m2.ret.kind,.int .i64 m2.ret.cls,.int .i64 m2.stack,.int .i64 m2.locals,.int .i64 m2.regs,.slice ia m2.code.length icap,.slice xa m2.handlers.length xcap] 54)).drew) KB0.out (by exact Rd.byB))
  have nxm:¬ KX E L (P.zone Z) W1.heap.size:=fun hk=>by have:=hkx.out _ hk;omega
  go_wp2_with (first | (go_at_call 64;refine (takeOk HD0.out FD0.out m2.params.length hlen (by omega)).mono ?_;rintro e w1 ⟨vt,vs1,rfl,V1,F1,H1,K1⟩;have c12:=H1.c12;have o0:=K1.cell (c:=W1.heap.size) (o:=0) (v:=.slice pa m2.params.length pcap) (by go_simp) nxm;have o1:=K1.cell (c:=W1.heap.size) (o:=1) (v:=.int .i64 m2.ret.kind) (by go_simp) nxm;have o2:=K1.cell (c:=W1.heap.size) (o:=2) (v:=.int .i64 m2.ret.cls) (by go_simp) nxm;have o3:=K1.cell (c:=W1.heap.size) (o:=3) (v:=.int .i64 m2.stack) (by go_simp) nxm;have o4:=K1.cell (c:=W1.heap.size) (o:=4) (v:=.int .i64 m2.locals) (by go_simp) nxm;have o5:=K1.cell (c:=W1.heap.size) (o:=5) (v:=.int .i64 m2.regs) (by go_simp) nxm;have o6:=K1.cell (c:=W1.heap.size) (o:=6) (v:=.slice ia m2.code.length icap) (by go_simp) nxm;have o7:=K1.cell (c:=W1.heap.size) (o:=7) (v:=.slice xa m2.handlers.length xcap) (by go_simp) nxm;have sz1:W1.heap.size < w1.heap.size:=(by have:=K1.size;simp at this;omega);replace H1:=Lib.hid H1;replace K1:=Lib.hid (KD0.out.trans K1 (fun _ h=>.inl h));replace F1:=Lib.hid F1;replace V1:=Lib.hid V1) | (go_at_call 32;refine (HRun.out _ _ _ (FX E L (P.zone Z)) H1.out (hmv.out.mono (K1.out.below hEB hlo.out) (Nat.le_refl _)) V1.out (fun _ hk=>.inl (.inl hk))).mono ?_;rintro e w2 HR2;obtain ⟨rk,rn,rfl,R2⟩:=rrv_m HR2;clear HR2;have KK:=rrm_kp R2;have o1e:=KK.cell o1 (fun hk=>nxm (.inl hk));have sz2:=KK.size;have sz3:W1.heap.size < w2.heap.size:=Nat.lt_of_lt_of_le sz1 sz2;obtain ⟨⟨rfl,rfl⟩,L2,K2,N2,H2⟩:=R2;replace K2:=Lib.hid K2;replace N2:=Lib.hid N2;replace H2:=Lib.hid H2;have F2:=Lib.hid (F1.out.heap K2.out N2.out)) | (go_at_call 116;refine (stopsF (H2.out.below (by exact Rd.byB)) rfl).mono ?_;rintro e w3 ⟨rfl,rfl⟩) | (go_at_call 68;refine (putA (H2.out.below (by exact Rd.byB)) (.inl rfl) (F2.out.below (by exact Rd.byB)) x (by simp;omega)).mono ?_;rintro e w4 ⟨vs4,rfl,F4,H4,K4⟩;replace F4:=Lib.hid F4;replace H4:=Lib.hid H4;replace K4:=Lib.hid K4))
  go_ret
  have H5:=H4.out
  have hT:Kp (KX E L P) w w4:=(kb (K1.out.trans K2.out (fun _ hy=>.inl (.inl hy))) (by exact Rd.byB)).trans K4.out (fun y hy=>by
   rcases hy with hy | hy
   ·rcases N2.out y hy with q | q
    ·exact .inl (.inl q)
    ·exact .inr (by first | omega | (simp at q;omega))
   ·exact .inl (.inr hy))
  have hG:∀ k,own E L2 k→own E L k∨w.heap.size≤k:=(fun k hk=>(N2.out k hk).imp_right (fun q=>by first | omega | (simp at q;omega)))
  have hne:m2.ret.kind≠0:=by have:=HRr.out;simpa using this
  rw [putS_run] at H5
  by_cases q:(size ((fr.stk.take (fr.stk.length - m2.params.length))++[x]):Int)≤m.stack
  ·rw [if_pos q] at H5
   exact act_go (callA_fit hne (by exact q)) (by simp [on]) hT hG H5 (F4.out.unzone zp.out)
  ·rw [if_neg q] at H5
   exact act_stop (callA_no hne (by exact q)) hT hG H5
set_option maxRecDepth 100000 in
theorem do19T (H:RH E w L h d Sv.run) (F:Fr E w L P m fr vs) (hl:fr.stk.length≤500) (hat:fr.at_≤100000) (a b c n:Int) (va:Value) (m2:Me) (ha:0≤a) (hk:a.toNat < E.f.methods.length) (hm2:meAt E.f a.toNat=m2) (hlen:m2.params.length≤fr.stk.length) (o:Nat) (h':Hp) (HRun:∀ (W:World) (mv va:Value) (X:Nat→Prop),RH E W L h d Sv.run→VMe W E.B mv m2→VS W X va (fr.stk.drop (fr.stk.length - m2.params.length))→(∀ k,own E L k→X k)→Calls Tryz.prog 32 #[.pointer (some ⟨E.hb,0,none⟩),mv,va] W (RRv E L d W (.thrown o h'))) :
  Calls Tryz.prog 66 #[.pointer (some ⟨E.hb,0,none⟩),.pointer (some ⟨P.cb,0,none⟩),.agg #[.int .i64 19,.int .i64 a,.int .i64 b,.int .i64 c,.int .i64 n,va]] w (ActR E L P m d fr w (callA m m2 (on fr (fr.stk.take (fr.stk.length - m2.params.length)) fr.at_) (.thrown o h'))):=by
 have hKX:∀ k,KX E L P k→k < w.heap.size:=fun k hk=>by
  rcases hk with hk | hk | hk
  ·exact (own_lo H.rows hk).2
  ·rw [hk];exact F.cbw
  ·rw [hk];exact F.lbw
 have HH:=Lib.hid H
 have hhb0:E.hb < w.heap.size:=H.rows.base.2
 have hhb1:E.hb < w.heap.size+1:=by omega
 have hcb0:P.cb < w.heap.size:=F.cbw
 have c10:=F.c10
 obtain ⟨Z,hZ⟩:∃ Z:Nat→Prop,Hid (Z=fun k=>P.Z k∨k=w.heap.size):=⟨_,rfl⟩
 have HB0:Below w.heap.size w (w.alloc (.cells #[.int .i64 19,.int .i64 a,.int .i64 b,.int .i64 c,.int .i64 n,va] 66)):=by exact Rd.byB
 have H0:=Lib.hid (H.below HB0)
 have F0:=Lib.hid (F.zone HB0 Z (fun k hk=>by rw [hZ.out] at hk;rcases hk with q | q;exact .inl q;exact .inr (by omega)) (fun k hk=>by rw [hZ.out] at hk;rcases hk with q | q;exact Nat.lt_of_lt_of_le (F.zlt k q) HB0.size;(simp;omega)))
 have nx0:¬ KX E L (P.zone Z) w.heap.size:=fun hk=>by have:=hKX _ hk;omega
 have zp:Hid (∀ k,P.Z k→Z k):=fun k hk=>by rw [hZ.out];exact .inl hk
 have hkx:=Lib.hid hKX
 have KB0:=Lib.hid (kpB (X:=KX E L P) HB0)
 clear H F hZ HB0 hKX
 replace HRun:=Lib.hid HRun
 obtain ⟨k,rfl⟩:=Int.eq_ofNat_of_zero_le ha
 rw [Int.toNat_natCast] at hk hm2
 obtain ⟨ma,mcap,hvm,p1,p2,mel⟩:=id HH.out.rows.mes
 obtain ⟨mb,mo,rfl,hmb,me⟩:=mel k hk
 have hm3:E.f.methods[k]=m2:=by rw [← hm2];unfold meAt;rw [List.getD_eq_getElem?_getD,List.getElem?_eq_getElem hk];rfl
 rw [hm3] at me
 obtain ⟨vp,vc,vh,e0,e1,e2,e3,e4,e5,e6,e7,e8,e9,e10,e11⟩:=me
 obtain ⟨pa,pcap,rfl,pp1,pp2,pel⟩:=id e9
 obtain ⟨ia,icap,rfl,ii1,ii2,iel⟩:=id e10
 obtain ⟨xa,xcap,rfl,xx1,xx2,xel⟩:=id e11
 have b1:w.cell? ⟨E.hb,1,none⟩=some (.slice (some ⟨mb,mo,none⟩) E.f.methods.length mcap):=by rw [← hvm];exact HH.out.c1
 have hki:(k:Int) < E.f.methods.length:=by omega
 have hEB:E.B≤w.heap.size:=by have:=HH.out.rows.base;omega
 have lmb:mb < w.heap.size:=by omega
 have hmv:=Lib.hid (show VMe w E.B (.agg #[.slice pa m2.params.length pcap,.int .i64 m2.ret.kind,.int .i64 m2.ret.cls,.int .i64 m2.stack,.int .i64 m2.locals,.int .i64 m2.regs,.slice ia m2.code.length icap,.slice xa m2.handlers.length xcap]) m2 from ⟨_,_,_,rfl,e8,e9,e10,e11⟩)
 replace hm2:=Lib.hid hm2
 clear mel hm3 e8 e9 e10 e11 pel iel xel hvm
 have hlo:Hid (∀ k,KX E L P k→E.B≤k):=fun k hk=>by
  rcases hk with hk | hk | hk
  ·exact (own_lo HH.out.rows hk).1
  ·rw [hk];exact F0.out.lo.1
  ·rw [hk];exact F0.out.lo.2
 skip
 ·go_enter Tryz.func66,Tryz.ntmps66
  go_wp2
  have a1:(w.alloc (.cells #[.int .i64 19,.int .i64 (k:Int),.int .i64 b,.int .i64 c,.int .i64 n,va] 66)).cell? ⟨E.hb,1,none⟩=some (.slice (some ⟨mb,mo,none⟩) E.f.methods.length mcap):=by go_simp
  have j1:(w.alloc (.cells #[.int .i64 19,.int .i64 (k:Int),.int .i64 b,.int .i64 c,.int .i64 n,va] 66)).cell? ⟨w.heap.size,1,none⟩=some (.int .i64 (k:Int)):=by go_simp
  have g0:(w.alloc (.cells #[.int .i64 19,.int .i64 (k:Int),.int .i64 b,.int .i64 c,.int .i64 n,va] 66)).cell? ⟨mb,mo+k*8,none⟩=some (.slice pa m2.params.length pcap):=by go_simp
  have g1:(w.alloc (.cells #[.int .i64 19,.int .i64 (k:Int),.int .i64 b,.int .i64 c,.int .i64 n,va] 66)).cell? ⟨mb,mo+k*8+1,none⟩=some (.int .i64 m2.ret.kind):=by go_simp
  have g2:(w.alloc (.cells #[.int .i64 19,.int .i64 (k:Int),.int .i64 b,.int .i64 c,.int .i64 n,va] 66)).cell? ⟨mb,mo+k*8+2,none⟩=some (.int .i64 m2.ret.cls):=by go_simp
  have g3:(w.alloc (.cells #[.int .i64 19,.int .i64 (k:Int),.int .i64 b,.int .i64 c,.int .i64 n,va] 66)).cell? ⟨mb,mo+k*8+3,none⟩=some (.int .i64 m2.stack):=by go_simp
  have g4:(w.alloc (.cells #[.int .i64 19,.int .i64 (k:Int),.int .i64 b,.int .i64 c,.int .i64 n,va] 66)).cell? ⟨mb,mo+k*8+4,none⟩=some (.int .i64 m2.locals):=by go_simp
  have g5:(w.alloc (.cells #[.int .i64 19,.int .i64 (k:Int),.int .i64 b,.int .i64 c,.int .i64 n,va] 66)).cell? ⟨mb,mo+k*8+5,none⟩=some (.int .i64 m2.regs):=by go_simp
  have g6:(w.alloc (.cells #[.int .i64 19,.int .i64 (k:Int),.int .i64 b,.int .i64 c,.int .i64 n,va] 66)).cell? ⟨mb,mo+k*8+6,none⟩=some (.slice ia m2.code.length icap):=by go_simp
  have g7:(w.alloc (.cells #[.int .i64 19,.int .i64 (k:Int),.int .i64 b,.int .i64 c,.int .i64 n,va] 66)).cell? ⟨mb,mo+k*8+7,none⟩=some (.slice xa m2.handlers.length xcap):=by go_simp
  have sz:w.heap.size < (w.alloc (.cells #[.int .i64 19,.int .i64 (k:Int),.int .i64 b,.int .i64 c,.int .i64 n,va] 66)).heap.size:=by simp
  generalize w.alloc (.cells #[.int .i64 19,.int .i64 (k:Int),.int .i64 b,.int .i64 c,.int .i64 n,va] 66)=W1 at a1 j1 g0 g1 g2 g3 g4 g5 g6 g7 sz H0 F0 KB0 ⊢
  have lcb:P.cb < W1.heap.size:=by omega
  have lhb:E.hb < W1.heap.size:=by omega
  have lmb1:mb < W1.heap.size:=by omega
  clear e0 e1 e2 e3 e4 e5 e6 e7 b1 c10
  go_region
  have FD0:=Lib.hid (F0.out.below (w':=(W1.alloc (.cells #[.slice pa m2.params.length pcap,.int .i64 m2.ret.kind,.int .i64 m2.ret.cls,.int .i64 m2.stack,.int .i64 m2.locals,.int .i64 m2.regs,.slice ia m2.code.length icap,.slice xa m2.handlers.length xcap] 54)).drew) (by exact Rd.byB))
  have HD0:=Lib.hid (H0.out.below (w':=(W1.alloc (.cells #[.slice pa m2.params.length pcap,.int .i64 m2.ret.kind,.int .i64 m2.ret.cls,.int .i64 m2.stack,.int .i64 m2.locals,.int .i64 m2.regs,.slice ia m2.code.length icap,.slice xa m2.handlers.length xcap] 54)).drew) (by exact Rd.byB))
  have KD0:=Lib.hid (kb (w2:=(W1.alloc (.cells #[.slice pa m2.params.length pcap,.int .i64 m2.ret.kind,.int .i64 m2.ret.cls,.int .i64 m2.stack,.int .i64 m2.locals,.int .i64 m2.regs,.slice ia m2.code.length icap,.slice xa m2.handlers.length xcap] 54)).drew) KB0.out (by exact Rd.byB))
  have nxm:¬ KX E L (P.zone Z) W1.heap.size:=fun hk=>by have:=hkx.out _ hk;omega
  go_wp2_with (first | (go_at_call 64;refine (takeOk HD0.out FD0.out m2.params.length hlen (by omega)).mono ?_;rintro e w1 ⟨vt,vs1,rfl,V1,F1,H1,K1⟩;have c12:=H1.c12;have o0:=K1.cell (c:=W1.heap.size) (o:=0) (v:=.slice pa m2.params.length pcap) (by go_simp) nxm;have o1:=K1.cell (c:=W1.heap.size) (o:=1) (v:=.int .i64 m2.ret.kind) (by go_simp) nxm;have o2:=K1.cell (c:=W1.heap.size) (o:=2) (v:=.int .i64 m2.ret.cls) (by go_simp) nxm;have o3:=K1.cell (c:=W1.heap.size) (o:=3) (v:=.int .i64 m2.stack) (by go_simp) nxm;have o4:=K1.cell (c:=W1.heap.size) (o:=4) (v:=.int .i64 m2.locals) (by go_simp) nxm;have o5:=K1.cell (c:=W1.heap.size) (o:=5) (v:=.int .i64 m2.regs) (by go_simp) nxm;have o6:=K1.cell (c:=W1.heap.size) (o:=6) (v:=.slice ia m2.code.length icap) (by go_simp) nxm;have o7:=K1.cell (c:=W1.heap.size) (o:=7) (v:=.slice xa m2.handlers.length xcap) (by go_simp) nxm;have sz1:W1.heap.size < w1.heap.size:=(by have:=K1.size;simp at this;omega);replace H1:=Lib.hid H1;replace K1:=Lib.hid (KD0.out.trans K1 (fun _ h=>.inl h));replace F1:=Lib.hid F1;replace V1:=Lib.hid V1) | (go_at_call 32;refine (HRun.out _ _ _ (FX E L (P.zone Z)) H1.out (hmv.out.mono (K1.out.below hEB hlo.out) (Nat.le_refl _)) V1.out (fun _ hk=>.inl (.inl hk))).mono ?_;rintro e w2 HR2;obtain ⟨rk,rn,rfl,R2⟩:=rrv_m HR2;clear HR2;have KK:=rrm_kp R2;have o1e:=KK.cell o1 (fun hk=>nxm (.inl hk));have sz2:=KK.size;have sz3:W1.heap.size < w2.heap.size:=Nat.lt_of_lt_of_le sz1 sz2;obtain ⟨L2,K2,N2,H2⟩:=R2;replace K2:=Lib.hid K2;replace N2:=Lib.hid N2;replace H2:=Lib.hid H2;have F2:=Lib.hid (F1.out.heap K2.out N2.out)) | (go_at_call 116;refine (stopsO (H2.out.below (by exact Rd.byB)) (by simp [Sv.thr])).mono ?_;rintro e w3 ⟨rfl,rfl⟩))
  go_ret
  unfold callA
  exact act_thr rfl (kb (K1.out.trans K2.out (fun _ hy=>.inl (.inl hy))) (by exact Rd.byB)) (fun k hk=>(N2.out k hk).imp_right (fun q=>by first | omega | (simp at q;omega))) (H2.out.below (by exact Rd.byB)) ((F2.out.below (by exact Rd.byB)).unzone zp.out)
set_option maxRecDepth 100000 in
theorem do19E (H:RH E w L h d Sv.run) (F:Fr E w L P m fr vs) (hl:fr.stk.length≤500) (hat:fr.at_≤100000) (a b c n:Int) (va:Value) (m2:Me) (ha:0≤a) (hk:a.toNat < E.f.methods.length) (hm2:meAt E.f a.toNat=m2) (hlen:m2.params.length≤fr.stk.length) (o:Int) (h':Hp) (HRun:∀ (W:World) (mv va:Value) (X:Nat→Prop),RH E W L h d Sv.run→VMe W E.B mv m2→VS W X va (fr.stk.drop (fr.stk.length - m2.params.length))→(∀ k,own E L k→X k)→Calls Tryz.prog 32 #[.pointer (some ⟨E.hb,0,none⟩),mv,va] W (RRv E L d W (.stop o h'))) :
  Calls Tryz.prog 66 #[.pointer (some ⟨E.hb,0,none⟩),.pointer (some ⟨P.cb,0,none⟩),.agg #[.int .i64 19,.int .i64 a,.int .i64 b,.int .i64 c,.int .i64 n,va]] w (ActR E L P m d fr w (callA m m2 (on fr (fr.stk.take (fr.stk.length - m2.params.length)) fr.at_) (.stop o h'))):=by
 have hKX:∀ k,KX E L P k→k < w.heap.size:=fun k hk=>by
  rcases hk with hk | hk | hk
  ·exact (own_lo H.rows hk).2
  ·rw [hk];exact F.cbw
  ·rw [hk];exact F.lbw
 have HH:=Lib.hid H
 have hhb0:E.hb < w.heap.size:=H.rows.base.2
 have hhb1:E.hb < w.heap.size+1:=by omega
 have hcb0:P.cb < w.heap.size:=F.cbw
 have c10:=F.c10
 obtain ⟨Z,hZ⟩:∃ Z:Nat→Prop,Hid (Z=fun k=>P.Z k∨k=w.heap.size):=⟨_,rfl⟩
 have HB0:Below w.heap.size w (w.alloc (.cells #[.int .i64 19,.int .i64 a,.int .i64 b,.int .i64 c,.int .i64 n,va] 66)):=by exact Rd.byB
 have H0:=Lib.hid (H.below HB0)
 have F0:=Lib.hid (F.zone HB0 Z (fun k hk=>by rw [hZ.out] at hk;rcases hk with q | q;exact .inl q;exact .inr (by omega)) (fun k hk=>by rw [hZ.out] at hk;rcases hk with q | q;exact Nat.lt_of_lt_of_le (F.zlt k q) HB0.size;(simp;omega)))
 have nx0:¬ KX E L (P.zone Z) w.heap.size:=fun hk=>by have:=hKX _ hk;omega
 have zp:Hid (∀ k,P.Z k→Z k):=fun k hk=>by rw [hZ.out];exact .inl hk
 have hkx:=Lib.hid hKX
 have KB0:=Lib.hid (kpB (X:=KX E L P) HB0)
 clear H F hZ HB0 hKX
 replace HRun:=Lib.hid HRun
 obtain ⟨k,rfl⟩:=Int.eq_ofNat_of_zero_le ha
 rw [Int.toNat_natCast] at hk hm2
 obtain ⟨ma,mcap,hvm,p1,p2,mel⟩:=id HH.out.rows.mes
 obtain ⟨mb,mo,rfl,hmb,me⟩:=mel k hk
 have hm3:E.f.methods[k]=m2:=by rw [← hm2];unfold meAt;rw [List.getD_eq_getElem?_getD,List.getElem?_eq_getElem hk];rfl
 rw [hm3] at me
 obtain ⟨vp,vc,vh,e0,e1,e2,e3,e4,e5,e6,e7,e8,e9,e10,e11⟩:=me
 obtain ⟨pa,pcap,rfl,pp1,pp2,pel⟩:=id e9
 obtain ⟨ia,icap,rfl,ii1,ii2,iel⟩:=id e10
 obtain ⟨xa,xcap,rfl,xx1,xx2,xel⟩:=id e11
 have b1:w.cell? ⟨E.hb,1,none⟩=some (.slice (some ⟨mb,mo,none⟩) E.f.methods.length mcap):=by rw [← hvm];exact HH.out.c1
 have hki:(k:Int) < E.f.methods.length:=by omega
 have hEB:E.B≤w.heap.size:=by have:=HH.out.rows.base;omega
 have lmb:mb < w.heap.size:=by omega
 have hmv:=Lib.hid (show VMe w E.B (.agg #[.slice pa m2.params.length pcap,.int .i64 m2.ret.kind,.int .i64 m2.ret.cls,.int .i64 m2.stack,.int .i64 m2.locals,.int .i64 m2.regs,.slice ia m2.code.length icap,.slice xa m2.handlers.length xcap]) m2 from ⟨_,_,_,rfl,e8,e9,e10,e11⟩)
 replace hm2:=Lib.hid hm2
 clear mel hm3 e8 e9 e10 e11 pel iel xel hvm
 have hlo:Hid (∀ k,KX E L P k→E.B≤k):=fun k hk=>by
  rcases hk with hk | hk | hk
  ·exact (own_lo HH.out.rows hk).1
  ·rw [hk];exact F0.out.lo.1
  ·rw [hk];exact F0.out.lo.2
 skip
 ·go_enter Tryz.func66,Tryz.ntmps66
  go_wp2
  have a1:(w.alloc (.cells #[.int .i64 19,.int .i64 (k:Int),.int .i64 b,.int .i64 c,.int .i64 n,va] 66)).cell? ⟨E.hb,1,none⟩=some (.slice (some ⟨mb,mo,none⟩) E.f.methods.length mcap):=by go_simp
  have j1:(w.alloc (.cells #[.int .i64 19,.int .i64 (k:Int),.int .i64 b,.int .i64 c,.int .i64 n,va] 66)).cell? ⟨w.heap.size,1,none⟩=some (.int .i64 (k:Int)):=by go_simp
  have g0:(w.alloc (.cells #[.int .i64 19,.int .i64 (k:Int),.int .i64 b,.int .i64 c,.int .i64 n,va] 66)).cell? ⟨mb,mo+k*8,none⟩=some (.slice pa m2.params.length pcap):=by go_simp
  have g1:(w.alloc (.cells #[.int .i64 19,.int .i64 (k:Int),.int .i64 b,.int .i64 c,.int .i64 n,va] 66)).cell? ⟨mb,mo+k*8+1,none⟩=some (.int .i64 m2.ret.kind):=by go_simp
  have g2:(w.alloc (.cells #[.int .i64 19,.int .i64 (k:Int),.int .i64 b,.int .i64 c,.int .i64 n,va] 66)).cell? ⟨mb,mo+k*8+2,none⟩=some (.int .i64 m2.ret.cls):=by go_simp
  have g3:(w.alloc (.cells #[.int .i64 19,.int .i64 (k:Int),.int .i64 b,.int .i64 c,.int .i64 n,va] 66)).cell? ⟨mb,mo+k*8+3,none⟩=some (.int .i64 m2.stack):=by go_simp
  have g4:(w.alloc (.cells #[.int .i64 19,.int .i64 (k:Int),.int .i64 b,.int .i64 c,.int .i64 n,va] 66)).cell? ⟨mb,mo+k*8+4,none⟩=some (.int .i64 m2.locals):=by go_simp
  have g5:(w.alloc (.cells #[.int .i64 19,.int .i64 (k:Int),.int .i64 b,.int .i64 c,.int .i64 n,va] 66)).cell? ⟨mb,mo+k*8+5,none⟩=some (.int .i64 m2.regs):=by go_simp
  have g6:(w.alloc (.cells #[.int .i64 19,.int .i64 (k:Int),.int .i64 b,.int .i64 c,.int .i64 n,va] 66)).cell? ⟨mb,mo+k*8+6,none⟩=some (.slice ia m2.code.length icap):=by go_simp
  have g7:(w.alloc (.cells #[.int .i64 19,.int .i64 (k:Int),.int .i64 b,.int .i64 c,.int .i64 n,va] 66)).cell? ⟨mb,mo+k*8+7,none⟩=some (.slice xa m2.handlers.length xcap):=by go_simp
  have sz:w.heap.size < (w.alloc (.cells #[.int .i64 19,.int .i64 (k:Int),.int .i64 b,.int .i64 c,.int .i64 n,va] 66)).heap.size:=by simp
  generalize w.alloc (.cells #[.int .i64 19,.int .i64 (k:Int),.int .i64 b,.int .i64 c,.int .i64 n,va] 66)=W1 at a1 j1 g0 g1 g2 g3 g4 g5 g6 g7 sz H0 F0 KB0 ⊢
  have lcb:P.cb < W1.heap.size:=by omega
  have lhb:E.hb < W1.heap.size:=by omega
  have lmb1:mb < W1.heap.size:=by omega
  clear e0 e1 e2 e3 e4 e5 e6 e7 b1 c10
  go_region
  have FD0:=Lib.hid (F0.out.below (w':=(W1.alloc (.cells #[.slice pa m2.params.length pcap,.int .i64 m2.ret.kind,.int .i64 m2.ret.cls,.int .i64 m2.stack,.int .i64 m2.locals,.int .i64 m2.regs,.slice ia m2.code.length icap,.slice xa m2.handlers.length xcap] 54)).drew) (by exact Rd.byB))
  have HD0:=Lib.hid (H0.out.below (w':=(W1.alloc (.cells #[.slice pa m2.params.length pcap,.int .i64 m2.ret.kind,.int .i64 m2.ret.cls,.int .i64 m2.stack,.int .i64 m2.locals,.int .i64 m2.regs,.slice ia m2.code.length icap,.slice xa m2.handlers.length xcap] 54)).drew) (by exact Rd.byB))
  have KD0:=Lib.hid (kb (w2:=(W1.alloc (.cells #[.slice pa m2.params.length pcap,.int .i64 m2.ret.kind,.int .i64 m2.ret.cls,.int .i64 m2.stack,.int .i64 m2.locals,.int .i64 m2.regs,.slice ia m2.code.length icap,.slice xa m2.handlers.length xcap] 54)).drew) KB0.out (by exact Rd.byB))
  have nxm:¬ KX E L (P.zone Z) W1.heap.size:=fun hk=>by have:=hkx.out _ hk;omega
  go_wp2_with (first | (go_at_call 64;refine (takeOk HD0.out FD0.out m2.params.length hlen (by omega)).mono ?_;rintro e w1 ⟨vt,vs1,rfl,V1,F1,H1,K1⟩;have c12:=H1.c12;have o0:=K1.cell (c:=W1.heap.size) (o:=0) (v:=.slice pa m2.params.length pcap) (by go_simp) nxm;have o1:=K1.cell (c:=W1.heap.size) (o:=1) (v:=.int .i64 m2.ret.kind) (by go_simp) nxm;have o2:=K1.cell (c:=W1.heap.size) (o:=2) (v:=.int .i64 m2.ret.cls) (by go_simp) nxm;have o3:=K1.cell (c:=W1.heap.size) (o:=3) (v:=.int .i64 m2.stack) (by go_simp) nxm;have o4:=K1.cell (c:=W1.heap.size) (o:=4) (v:=.int .i64 m2.locals) (by go_simp) nxm;have o5:=K1.cell (c:=W1.heap.size) (o:=5) (v:=.int .i64 m2.regs) (by go_simp) nxm;have o6:=K1.cell (c:=W1.heap.size) (o:=6) (v:=.slice ia m2.code.length icap) (by go_simp) nxm;have o7:=K1.cell (c:=W1.heap.size) (o:=7) (v:=.slice xa m2.handlers.length xcap) (by go_simp) nxm;have sz1:W1.heap.size < w1.heap.size:=(by have:=K1.size;simp at this;omega);replace H1:=Lib.hid H1;replace K1:=Lib.hid (KD0.out.trans K1 (fun _ h=>.inl h));replace F1:=Lib.hid F1;replace V1:=Lib.hid V1) | (go_at_call 32;refine (HRun.out _ _ _ (FX E L (P.zone Z)) H1.out (hmv.out.mono (K1.out.below hEB hlo.out) (Nat.le_refl _)) V1.out (fun _ hk=>.inl (.inl hk))).mono ?_;rintro e w2 HR2;obtain ⟨rk,rn,rfl,R2⟩:=rrv_m HR2;clear HR2;have KK:=rrm_kp R2;have o1e:=KK.cell o1 (fun hk=>nxm (.inl hk));have sz2:=KK.size;have sz3:W1.heap.size < w2.heap.size:=Nat.lt_of_lt_of_le sz1 sz2;obtain ⟨L2,K2,N2,H2⟩:=R2;replace K2:=Lib.hid K2;replace N2:=Lib.hid N2;replace H2:=Lib.hid H2;have F2:=Lib.hid (F1.out.heap K2.out N2.out)) | (go_at_call 116;refine (stopsO (H2.out.below (by exact Rd.byB)) rfl).mono ?_;rintro e w3 ⟨rfl,rfl⟩))
  go_ret
  unfold callA
  exact act_stop rfl (kb (K1.out.trans K2.out (fun _ hy=>.inl (.inl hy))) (by exact Rd.byB)) (fun k hk=>(N2.out k hk).imp_right (fun q=>by first | omega | (simp at q;omega))) (H2.out.below (by exact Rd.byB))
end
end Rhw
namespace Run
open D Num
def NC:Act Sf→Prop
 | .call ..=>False
 | _=>True
section
variable {f:Fi}{input:List Int}{fuel g d:Nat}{m:Me}{i:Ins}{fr:Sf}{h:Hp}
theorem push_nc (st:List Vl) (v:Vl) (h:Hp):NC (push m fr st v h):=by unfold push;split <;> trivial
theorem pop1_nc {k:Vl→List Vl→Act Sf}(hk:∀ v st,NC (k v st)):NC (pop1 fr h k):=by
 unfold pop1;split
 ·trivial
 ·exact hk _ _
theorem pop2_nc {k:Vl→Vl→List Vl→Act Sf}(hk:∀ a b st,NC (k a b st)):NC (pop2 fr h k):=by
 unfold pop2
 refine pop1_nc (fun b st=>?_)
 split
 ·trivial
 ·exact hk _ _ _
theorem kindly_nc {v:Vl}{kind:Int}{k:Act Sf}(hk:NC k):NC (kindly v kind h k):=by
 unfold kindly;split
 ·exact hk
 ·trivial
theorem act_nc {α:Type}{r:Res α}{k:α→Hp→Act Sf}(hk:∀ a h,NC (k a h)):NC (r.act k):=by
 cases r with
 | ok a h=>exact hk a h
 | thrown o h=>trivial
 | stop e h=>trivial
theorem ite_nc {c:Prop} [Decidable c] {a b:Act Sf}(ha:NC a) (hb:NC b):NC (if c then a else b):=by
 split
 ·exact ha
 ·exact hb
theorem sstep_nc (hop:i.op≠19):NC (sstep f input m i fr h):=by
 unfold sstep
 refine ite_nc (push_nc _ _ _) ?_
 refine ite_nc (push_nc _ _ _) ?_
 refine ite_nc (push_nc _ _ _) ?_
 refine ite_nc (kindly_nc (push_nc _ _ _)) ?_
 refine ite_nc (pop1_nc (fun v st=>kindly_nc trivial)) ?_
 refine ite_nc (pop2_nc (fun a b st=>act_nc (fun v h=>push_nc _ _ _))) ?_
 refine ite_nc (pop2_nc (fun a b st=>act_nc (fun v h=>push_nc _ _ _))) ?_
 refine ite_nc (pop1_nc (fun v st=>kindly_nc (push_nc _ _ _))) ?_
 refine ite_nc (pop1_nc (fun v st=>kindly_nc (push_nc _ _ _))) ?_
 refine ite_nc (pop2_nc (fun a b st=>kindly_nc (kindly_nc (push_nc _ _ _)))) ?_
 refine ite_nc (trivial) ?_
 refine ite_nc (pop1_nc (fun v st=>kindly_nc trivial)) ?_
 refine ite_nc (pop1_nc (fun v st=>kindly_nc trivial)) ?_
 refine ite_nc (act_nc (fun v h=>push_nc _ _ _)) ?_
 refine ite_nc (pop1_nc (fun v st=>act_nc (fun v h=>push_nc _ _ _))) ?_
 refine ite_nc (pop2_nc (fun a b st=>kindly_nc (act_nc (fun v h=>trivial)))) ?_
 refine ite_nc (pop1_nc (fun v st=>act_nc (fun v h=>push_nc _ _ _))) ?_
 refine ite_nc (pop1_nc (fun v st=>act_nc (fun v h=>push_nc _ _ _))) ?_
 rw [if_neg hop]
 refine ite_nc (ite_nc trivial (pop1_nc (fun v st=>ite_nc trivial trivial))) ?_
 refine ite_nc (pop1_nc (fun v st=>act_nc (fun v h=>trivial))) ?_
 refine ite_nc (pop1_nc (fun v st=>trivial)) ?_
 refine ite_nc (pop1_nc (fun v st=>ite_nc trivial trivial)) ?_
 refine ite_nc (pop1_nc (fun v st=>act_nc (fun v h=>trivial))) ?_
 refine ite_nc (act_nc (fun v h=>push_nc _ _ _)) ?_
 exact trivial
theorem actS_eq (hop:i.op≠19):actS f input fuel g d m i fr h=sstep f input m i fr h:=by
 have:=sstep_nc (f:=f) (input:=input) (m:=m) (fr:=fr) (h:=h) hop
 unfold actS
 revert this
 generalize sstep f input m i fr h=a
 intro hn
 cases a with
 | call k args fr' h'=>exact hn.elim
 | _=>rfl
theorem kindly_res {v x:Vl}{kind:Int}{st:List Vl}:(if v.kind=kind then Res.ok x h else Res.stop 6 h:Res Vl).act (fun v h=>push m fr st v h)=kindly v kind h (push m fr st x h):=by
 unfold kindly;split <;> rfl
variable {a b c n:Int}{args:List Int}
theorem st1:sstep f input m ⟨1,a,b,c,n,args⟩ fr h=push m fr fr.stk ⟨1,n⟩ h:=by
 simp [sstep]
theorem st2:sstep f input m ⟨2,a,b,c,n,args⟩ fr h=push m fr fr.stk ⟨2,n⟩ h:=by
 simp [sstep]
theorem st3:sstep f input m ⟨3,a,b,c,n,args⟩ fr h=push m fr fr.stk ⟨3,-1⟩ h:=by
 simp [sstep]
theorem st4:sstep f input m ⟨4,a,b,c,n,args⟩ fr h=kindly (fr.loc.getD a.toNat Vl.nil) b h (push m fr fr.stk (fr.loc.getD a.toNat Vl.nil) h):=by
 simp [sstep,s4]
theorem st5n (hn:fr.stk=[]):sstep f input m ⟨5,a,b,c,n,args⟩ fr h=.stop 6 h:=by
 simp [sstep,s5,pop1,pop2,hn]
theorem st5 (hn:fr.stk≠[]):sstep f input m ⟨5,a,b,c,n,args⟩ fr h=kindly (top fr.stk) b h (.go ⟨store fr.loc a.toNat (top fr.stk),fr.stk.dropLast,fr.at_+1⟩ h):=by
 simp [sstep,s5,pop1,hn]
theorem st6n (hn:fr.stk=[]∨fr.stk.dropLast=[]):sstep f input m ⟨6,a,b,c,n,args⟩ fr h=.stop 6 h:=by
 have e:sstep f input m ⟨6,a,b,c,n,args⟩ fr h=s67 f.classes m 1 ⟨6,a,b,c,n,args⟩ fr h:=by simp [sstep]
 rw [e]
 unfold s67 pop2 pop1
 by_cases q:fr.stk=[]
 ·rw [if_pos q]
 ·rw [if_neg q]
  rcases hn with hn | hn
  ·exact absurd hn q
  ·dsimp only;rw [if_pos hn]
theorem st6 (hn:fr.stk≠[]) (hn2:fr.stk.dropLast≠[]):sstep f input m ⟨6,a,b,c,n,args⟩ fr h=(reckon f.classes (top fr.stk.dropLast) (top fr.stk) 1 a h).act fun v h=>push m fr fr.stk.dropLast.dropLast v h:=by
 have e:sstep f input m ⟨6,a,b,c,n,args⟩ fr h=s67 f.classes m 1 ⟨6,a,b,c,n,args⟩ fr h:=by simp [sstep]
 rw [e]
 unfold s67 pop2 pop1
 rw [if_neg hn];dsimp only;rw [if_neg hn2]
theorem st7n (hn:fr.stk=[]∨fr.stk.dropLast=[]):sstep f input m ⟨7,a,b,c,n,args⟩ fr h=.stop 6 h:=by
 have e:sstep f input m ⟨7,a,b,c,n,args⟩ fr h=s67 f.classes m 2 ⟨7,a,b,c,n,args⟩ fr h:=by simp [sstep]
 rw [e]
 unfold s67 pop2 pop1
 by_cases q:fr.stk=[]
 ·rw [if_pos q]
 ·rw [if_neg q]
  rcases hn with hn | hn
  ·exact absurd hn q
  ·dsimp only;rw [if_pos hn]
theorem st7 (hn:fr.stk≠[]) (hn2:fr.stk.dropLast≠[]):sstep f input m ⟨7,a,b,c,n,args⟩ fr h=(reckon f.classes (top fr.stk.dropLast) (top fr.stk) 2 a h).act fun v h=>push m fr fr.stk.dropLast.dropLast v h:=by
 have e:sstep f input m ⟨7,a,b,c,n,args⟩ fr h=s67 f.classes m 2 ⟨7,a,b,c,n,args⟩ fr h:=by simp [sstep]
 rw [e]
 unfold s67 pop2 pop1
 rw [if_neg hn];dsimp only;rw [if_neg hn2]
theorem st8n (hn:fr.stk=[]):sstep f input m ⟨8,a,b,c,n,args⟩ fr h=.stop 6 h:=by
 simp [sstep,s8,pop1,pop2,hn]
theorem st8 (hn:fr.stk≠[]):sstep f input m ⟨8,a,b,c,n,args⟩ fr h=kindly (top fr.stk) 1 h (push m fr fr.stk.dropLast ⟨2,((top fr.stk)).n⟩ h):=by
 simp [sstep,s8,pop1,hn]
theorem st9n (hn:fr.stk=[]):sstep f input m ⟨9,a,b,c,n,args⟩ fr h=.stop 6 h:=by
 simp [sstep,s9,pop1,pop2,hn]
theorem st9 (hn:fr.stk≠[]):sstep f input m ⟨9,a,b,c,n,args⟩ fr h=kindly (top fr.stk) 2 h (push m fr fr.stk.dropLast ⟨1,wrap32 ((top fr.stk)).n⟩ h):=by
 simp [sstep,s9,pop1,hn]
theorem st10n (hn:fr.stk=[]∨fr.stk.dropLast=[]):sstep f input m ⟨10,a,b,c,n,args⟩ fr h=.stop 6 h:=by
 have e:sstep f input m ⟨10,a,b,c,n,args⟩ fr h=s10 m fr h:=by simp [sstep]
 rw [e]
 unfold s10 pop2 pop1
 by_cases q:fr.stk=[]
 ·rw [if_pos q]
 ·rw [if_neg q]
  rcases hn with hn | hn
  ·exact absurd hn q
  ·dsimp only;rw [if_pos hn]
theorem st10 (hn:fr.stk≠[]) (hn2:fr.stk.dropLast≠[]):sstep f input m ⟨10,a,b,c,n,args⟩ fr h=kindly (top fr.stk) 2 h (kindly (top fr.stk.dropLast) 2 h (push m fr fr.stk.dropLast.dropLast ⟨1,Num.cmp ((top fr.stk.dropLast)).n ((top fr.stk)).n⟩ h)):=by
 have e:sstep f input m ⟨10,a,b,c,n,args⟩ fr h=s10 m fr h:=by simp [sstep]
 rw [e]
 unfold s10 pop2 pop1
 rw [if_neg hn];dsimp only;rw [if_neg hn2]
theorem st11:sstep f input m ⟨11,a,b,c,n,args⟩ fr h=.go (on fr fr.stk a.toNat) h:=by
 simp [sstep]
theorem st12n (hn:fr.stk=[]):sstep f input m ⟨12,a,b,c,n,args⟩ fr h=.stop 6 h:=by
 simp [sstep,s12,pop1,pop2,hn]
theorem st12 (hn:fr.stk≠[]):sstep f input m ⟨12,a,b,c,n,args⟩ fr h=kindly (top fr.stk) 1 h (.go (on fr fr.stk.dropLast (if Num.holds b ((top fr.stk)).n then a.toNat else fr.at_+1)) h):=by
 simp [sstep,s12,pop1,hn]
theorem st13n (hn:fr.stk=[]):sstep f input m ⟨13,a,b,c,n,args⟩ fr h=.stop 6 h:=by
 simp [sstep,s13,pop1,pop2,hn]
theorem st13 (hn:fr.stk≠[]):sstep f input m ⟨13,a,b,c,n,args⟩ fr h=kindly (top fr.stk) 3 h (.go (on fr fr.stk.dropLast (if ((top fr.stk)).n < 0 then a.toNat else fr.at_+1)) h):=by
 simp [sstep,s13,pop1,hn]
theorem st14:sstep f input m ⟨14,a,b,c,n,args⟩ fr h=(new f.classes a h).act fun v h=>push m fr fr.stk v h:=by
 simp [sstep,s14]
theorem st15n (hn:fr.stk=[]):sstep f input m ⟨15,a,b,c,n,args⟩ fr h=.stop 6 h:=by
 simp [sstep,s15,pop1,pop2,hn]
theorem st15 (hn:fr.stk≠[]):sstep f input m ⟨15,a,b,c,n,args⟩ fr h=(get f.classes (top fr.stk) a b h).act fun v h=>push m fr fr.stk.dropLast v h:=by
 simp [sstep,s15,pop1,hn]
theorem st16n (hn:fr.stk=[]∨fr.stk.dropLast=[]):sstep f input m ⟨16,a,b,c,n,args⟩ fr h=.stop 6 h:=by
 have e:sstep f input m ⟨16,a,b,c,n,args⟩ fr h=s16 f.classes ⟨16,a,b,c,n,args⟩ fr h:=by simp [sstep]
 rw [e]
 unfold s16 pop2 pop1
 by_cases q:fr.stk=[]
 ·rw [if_pos q]
 ·rw [if_neg q]
  rcases hn with hn | hn
  ·exact absurd hn q
  ·dsimp only;rw [if_pos hn]
theorem st16 (hn:fr.stk≠[]) (hn2:fr.stk.dropLast≠[]):sstep f input m ⟨16,a,b,c,n,args⟩ fr h=kindly (top fr.stk.dropLast) 3 h ((put f.classes (top fr.stk.dropLast) a b (top fr.stk) (ftype f.classes a b) h).act fun _ h=>.go (on fr fr.stk.dropLast.dropLast (fr.at_+1)) h):=by
 have e:sstep f input m ⟨16,a,b,c,n,args⟩ fr h=s16 f.classes ⟨16,a,b,c,n,args⟩ fr h:=by simp [sstep]
 rw [e]
 unfold s16 pop2 pop1
 rw [if_neg hn];dsimp only;rw [if_neg hn2]
theorem st17n (hn:fr.stk=[]):sstep f input m ⟨17,a,b,c,n,args⟩ fr h=.stop 6 h:=by
 simp [sstep,s17,pop1,pop2,hn]
theorem st17 (hn:fr.stk≠[]):sstep f input m ⟨17,a,b,c,n,args⟩ fr h=(cast f.classes (top fr.stk) a h).act fun _ h=>push m fr fr.stk.dropLast (top fr.stk) h:=by
 simp [sstep,s17,pop1,hn]
theorem st18n (hn:fr.stk=[]):sstep f input m ⟨18,a,b,c,n,args⟩ fr h=.stop 6 h:=by
 simp [sstep,s18,pop1,pop2,hn]
theorem st18 (hn:fr.stk≠[]):sstep f input m ⟨18,a,b,c,n,args⟩ fr h=(isV f.classes (top fr.stk) a h).act fun v h=>push m fr fr.stk.dropLast v h:=by
 simp [sstep,s18,pop1,hn]
theorem st21n (hn:fr.stk=[]):sstep f input m ⟨21,a,b,c,n,args⟩ fr h=.stop 6 h:=by
 simp [sstep,s21,pop1,pop2,hn]
theorem st21 (hn:fr.stk≠[]):sstep f input m ⟨21,a,b,c,n,args⟩ fr h=(throw f.classes (top fr.stk) h).act fun (_:Unit) h=>.stop 6 h:=by
 simp [sstep,s21,pop1,hn]
theorem st22n (hn:fr.stk=[]):sstep f input m ⟨22,a,b,c,n,args⟩ fr h=.stop 6 h:=by
 simp [sstep,s22,pop1,pop2,hn]
theorem st22 (hn:fr.stk≠[]):sstep f input m ⟨22,a,b,c,n,args⟩ fr h=.go (on fr fr.stk.dropLast (fr.at_+1)) h:=by
 simp [sstep,s22,pop1,hn]
theorem st23n (hn:fr.stk=[]):sstep f input m ⟨23,a,b,c,n,args⟩ fr h=.stop 6 h:=by
 simp [sstep,s23,pop1,pop2,hn]
theorem st23 (hn:fr.stk≠[]):sstep f input m ⟨23,a,b,c,n,args⟩ fr h=if (size (fr.stk.dropLast++[(top fr.stk),(top fr.stk)]):Int)≤m.stack then .go (on fr (fr.stk.dropLast++[(top fr.stk),(top fr.stk)]) (fr.at_+1)) h else .stop 6 h:=by
 simp [sstep,s23,pop1,hn]
theorem st24n (hn:fr.stk=[]):sstep f input m ⟨24,a,b,c,n,args⟩ fr h=.stop 6 h:=by
 simp [sstep,s24,pop1,pop2,hn]
theorem st24 (hn:fr.stk≠[]):sstep f input m ⟨24,a,b,c,n,args⟩ fr h=(emit (top fr.stk) a h).act fun _ h=>.go (on fr fr.stk.dropLast (fr.at_+1)) h:=by
 simp [sstep,s24,pop1,hn]
theorem st25:sstep f input m ⟨25,a,b,c,n,args⟩ fr h=(takeIn input h).act fun v h=>push m fr fr.stk v h:=by
 simp [sstep,s25]
theorem st19n (hlt:fr.stk.length < (meAt f a.toNat).params.length):sstep f input m ⟨19,a,b,c,n,args⟩ fr h=.stop 6 h:=by
 have e:sstep f input m ⟨19,a,b,c,n,args⟩ fr h=s19 f ⟨19,a,b,c,n,args⟩ fr h:=by simp [sstep]
 rw [e];unfold s19;rw [if_pos hlt]
theorem st19 (hlt:¬ fr.stk.length < (meAt f a.toNat).params.length):sstep f input m ⟨19,a,b,c,n,args⟩ fr h=.call a.toNat (fr.stk.drop (fr.stk.length - (meAt f a.toNat).params.length)) (on fr (fr.stk.take (fr.stk.length - (meAt f a.toNat).params.length)) fr.at_) h:=by
 have e:sstep f input m ⟨19,a,b,c,n,args⟩ fr h=s19 f ⟨19,a,b,c,n,args⟩ fr h:=by simp [sstep]
 rw [e];unfold s19;rw [if_neg hlt]
theorem st20:sstep f input m ⟨20,a,b,c,n,args⟩ fr h=s20 f.classes m fr h:=by simp [sstep]
end
end Run
namespace Rhw
open Num Rd D Run Mem HierW Hpw
section
variable {E:Ev}{w w':World}{L L':RL}{h h':Hp}{d:Nat}{s:Sv}{P:Pl}{m:Me}{fr:Sf}{vs:Value}
def RunOk (E:Ev) (d g:Nat) (h:Hp):Prop:=∀ (k:Nat) (args:List Vl) (h1:Hp),k < E.f.methods.length→HpOk E.f.classes E.input E.fuel h1→h1.steps=h.steps→(∀ v∈args,VtOk h1.objs.length v)→args.length=(meAt E.f k).params.length →
 ∀ (L:RL) (W:World) (mv va:Value) (X:Nat→Prop),RH E W L h1 d Sv.run→VMe W E.B mv (meAt E.f k)→VS W X va args→(∀ j,own E L j→X j)→Calls Tryz.prog 32 #[.pointer (some ⟨E.hb,0,none⟩),mv,va] W (RRv E L d W (call SM E.f E.input E.fuel g d (meAt E.f k) args h1))
theorem vok (hf:SfOk m h.objs.length fr):∀ v∈fr.stk,VlOk h.objs.length v:=fun v hv=>(hf.stk v hv).1
theorem cast_res {r:Res Unit}{v:Vl}{st:List Vl}:(r.bind fun _ h=>(Res.ok v h:Res Vl)).act (fun v h=>push m fr st v h)=r.act fun _ h=>push m fr st v h:=by cases r <;> rfl
theorem stop_res {st:List Vl}{c:Int}:(Res.stop c h:Res Vl).act (fun v h=>push m fr st v h)=.stop c h:=rfl
theorem ok_res {st:List Vl}{v:Vl}:(Res.ok v h:Res Vl).act (fun v h=>push m fr st v h)=push m fr st v h:=rfl
theorem kindly2_res {x y v:Vl}{st:List Vl}:(if y.kind=2∧x.kind=2 then Res.ok v h else Res.stop 6 h:Res Vl).act (fun v h=>push m fr st v h)=kindly y 2 h (kindly x 2 h (push m fr st v h)):=by
 unfold kindly
 by_cases q1:y.kind=2
 ·by_cases q2:x.kind=2
  ·rw [if_pos ⟨q1,q2⟩,if_pos q1,if_pos q2];rfl
  ·rw [if_neg (fun e=>q2 e.2),if_pos q1,if_neg q2];rfl
 ·rw [if_neg (fun e=>q1 e.1),if_neg q1];rfl
theorem does1 (S:FiS E.f) (M:MeS E.f m) (g:Nat) (H:RH E w L h d Sv.run) (F:Fr E w L P m fr vs) (HO:HpOk E.f.classes E.input E.fuel h) (hf:SfOk m h.objs.length fr) (hl:fr.stk.length≤40) (hat:fr.at_≤100000) (hfu:E.fuel≤60000) (hin:E.input.length≤1000) (a b c n:Int) (args:List Int) (va:Value):Calls Tryz.prog 66 #[.pointer (some ⟨E.hb,0,none⟩),.pointer (some ⟨P.cb,0,none⟩),.agg #[.int .i64 1,.int .i64 a,.int .i64 b,.int .i64 c,.int .i64 n,va]] w (ActR E L P m d fr w (actS E.f E.input E.fuel g d m ⟨1,a,b,c,n,args⟩ fr h)):=by
 rw [actS_eq (by simp)]
 rw [st1,← ok_res]
 exact doG H F (by omega) hat 1 rfl rfl rfl rfl rfl rfl rfl rfl rfl rfl rfl a b c n va _ _ (by omega) (fun W Q vs' H F=>giv1 H F (by omega) a b c n va)
theorem does2 (S:FiS E.f) (M:MeS E.f m) (g:Nat) (H:RH E w L h d Sv.run) (F:Fr E w L P m fr vs) (HO:HpOk E.f.classes E.input E.fuel h) (hf:SfOk m h.objs.length fr) (hl:fr.stk.length≤40) (hat:fr.at_≤100000) (hfu:E.fuel≤60000) (hin:E.input.length≤1000) (a b c n:Int) (args:List Int) (va:Value):Calls Tryz.prog 66 #[.pointer (some ⟨E.hb,0,none⟩),.pointer (some ⟨P.cb,0,none⟩),.agg #[.int .i64 2,.int .i64 a,.int .i64 b,.int .i64 c,.int .i64 n,va]] w (ActR E L P m d fr w (actS E.f E.input E.fuel g d m ⟨2,a,b,c,n,args⟩ fr h)):=by
 rw [actS_eq (by simp)]
 rw [st2,← ok_res]
 exact doG H F (by omega) hat 2 rfl rfl rfl rfl rfl rfl rfl rfl rfl rfl rfl a b c n va _ _ (by omega) (fun W Q vs' H F=>giv2 H F (by omega) a b c n va)
theorem does3 (S:FiS E.f) (M:MeS E.f m) (g:Nat) (H:RH E w L h d Sv.run) (F:Fr E w L P m fr vs) (HO:HpOk E.f.classes E.input E.fuel h) (hf:SfOk m h.objs.length fr) (hl:fr.stk.length≤40) (hat:fr.at_≤100000) (hfu:E.fuel≤60000) (hin:E.input.length≤1000) (a b c n:Int) (args:List Int) (va:Value):Calls Tryz.prog 66 #[.pointer (some ⟨E.hb,0,none⟩),.pointer (some ⟨P.cb,0,none⟩),.agg #[.int .i64 3,.int .i64 a,.int .i64 b,.int .i64 c,.int .i64 n,va]] w (ActR E L P m d fr w (actS E.f E.input E.fuel g d m ⟨3,a,b,c,n,args⟩ fr h)):=by
 rw [actS_eq (by simp)]
 rw [st3,← ok_res]
 exact doG H F (by omega) hat 3 rfl rfl rfl rfl rfl rfl rfl rfl rfl rfl rfl a b c n va _ _ (by omega) (fun W Q vs' H F=>giv3 H F (by omega) a b c n va)
theorem does14 (S:FiS E.f) (M:MeS E.f m) (g:Nat) (H:RH E w L h d Sv.run) (F:Fr E w L P m fr vs) (HO:HpOk E.f.classes E.input E.fuel h) (hf:SfOk m h.objs.length fr) (hl:fr.stk.length≤40) (hat:fr.at_≤100000) (hfu:E.fuel≤60000) (hin:E.input.length≤1000) (a b c n:Int) (args:List Int) (va:Value):Calls Tryz.prog 66 #[.pointer (some ⟨E.hb,0,none⟩),.pointer (some ⟨P.cb,0,none⟩),.agg #[.int .i64 14,.int .i64 a,.int .i64 b,.int .i64 c,.int .i64 n,va]] w (ActR E L P m d fr w (actS E.f E.input E.fuel g d m ⟨14,a,b,c,n,args⟩ fr h)):=by
 rw [actS_eq (by simp)]
 rw [st14]
 exact doG H F (by omega) hat 14 rfl rfl rfl rfl rfl rfl rfl rfl rfl rfl rfl a b c n va _ _ (by omega) (fun W Q vs' H F=>giv14 H F (by omega) S.may HO a b c n va)
theorem does25 (S:FiS E.f) (M:MeS E.f m) (g:Nat) (H:RH E w L h d Sv.run) (F:Fr E w L P m fr vs) (HO:HpOk E.f.classes E.input E.fuel h) (hf:SfOk m h.objs.length fr) (hl:fr.stk.length≤40) (hat:fr.at_≤100000) (hfu:E.fuel≤60000) (hin:E.input.length≤1000) (a b c n:Int) (args:List Int) (va:Value):Calls Tryz.prog 66 #[.pointer (some ⟨E.hb,0,none⟩),.pointer (some ⟨P.cb,0,none⟩),.agg #[.int .i64 25,.int .i64 a,.int .i64 b,.int .i64 c,.int .i64 n,va]] w (ActR E L P m d fr w (actS E.f E.input E.fuel g d m ⟨25,a,b,c,n,args⟩ fr h)):=by
 rw [actS_eq (by simp)]
 rw [st25]
 exact doG H F (by omega) hat 25 rfl rfl rfl rfl rfl rfl rfl rfl rfl rfl rfl a b c n va _ _ (by omega) (fun W Q vs' H F=>giv25 H F (by omega) S.may HO hin a b c n va)
theorem does8 (S:FiS E.f) (M:MeS E.f m) (g:Nat) (H:RH E w L h d Sv.run) (F:Fr E w L P m fr vs) (HO:HpOk E.f.classes E.input E.fuel h) (hf:SfOk m h.objs.length fr) (hl:fr.stk.length≤40) (hat:fr.at_≤100000) (hfu:E.fuel≤60000) (hin:E.input.length≤1000) (a b c n:Int) (args:List Int) (va:Value):Calls Tryz.prog 66 #[.pointer (some ⟨E.hb,0,none⟩),.pointer (some ⟨P.cb,0,none⟩),.agg #[.int .i64 8,.int .i64 a,.int .i64 b,.int .i64 c,.int .i64 n,va]] w (ActR E L P m d fr w (actS E.f E.input E.fuel g d m ⟨8,a,b,c,n,args⟩ fr h)):=by
 rw [actS_eq (by simp)]
 by_cases hn:fr.stk=[]
 ·rw [st8n hn,← stop_res (m:=m) (fr:=fr) (st:=fr.stk)]
  exact doG H F (by omega) hat 8 rfl rfl rfl rfl rfl rfl rfl rfl rfl rfl rfl a b c n va _ _ (by omega) (fun W Q vs' H F=>giv8S H F (by omega) hn a b c n va)
 ·rw [st8 hn,← kindly_res]
  exact doG H F (by omega) hat 8 rfl rfl rfl rfl rfl rfl rfl rfl rfl rfl rfl a b c n va _ _ (by rw [List.length_dropLast];omega) (fun W Q vs' H F=>giv8 H F (by omega) hn a b c n va)
theorem does9 (S:FiS E.f) (M:MeS E.f m) (g:Nat) (H:RH E w L h d Sv.run) (F:Fr E w L P m fr vs) (HO:HpOk E.f.classes E.input E.fuel h) (hf:SfOk m h.objs.length fr) (hl:fr.stk.length≤40) (hat:fr.at_≤100000) (hfu:E.fuel≤60000) (hin:E.input.length≤1000) (a b c n:Int) (args:List Int) (va:Value):Calls Tryz.prog 66 #[.pointer (some ⟨E.hb,0,none⟩),.pointer (some ⟨P.cb,0,none⟩),.agg #[.int .i64 9,.int .i64 a,.int .i64 b,.int .i64 c,.int .i64 n,va]] w (ActR E L P m d fr w (actS E.f E.input E.fuel g d m ⟨9,a,b,c,n,args⟩ fr h)):=by
 rw [actS_eq (by simp)]
 by_cases hn:fr.stk=[]
 ·rw [st9n hn,← stop_res (m:=m) (fr:=fr) (st:=fr.stk)]
  exact doG H F (by omega) hat 9 rfl rfl rfl rfl rfl rfl rfl rfl rfl rfl rfl a b c n va _ _ (by omega) (fun W Q vs' H F=>giv9S H F (by omega) hn a b c n va)
 ·rw [st9 hn,← kindly_res]
  exact doG H F (by omega) hat 9 rfl rfl rfl rfl rfl rfl rfl rfl rfl rfl rfl a b c n va _ _ (by rw [List.length_dropLast];omega) (fun W Q vs' H F=>giv9 H F (by omega) hn a b c n va)
theorem does15 (S:FiS E.f) (M:MeS E.f m) (g:Nat) (H:RH E w L h d Sv.run) (F:Fr E w L P m fr vs) (HO:HpOk E.f.classes E.input E.fuel h) (hf:SfOk m h.objs.length fr) (hl:fr.stk.length≤40) (hat:fr.at_≤100000) (hfu:E.fuel≤60000) (hin:E.input.length≤1000) (a b c n:Int) (args:List Int) (va:Value):Calls Tryz.prog 66 #[.pointer (some ⟨E.hb,0,none⟩),.pointer (some ⟨P.cb,0,none⟩),.agg #[.int .i64 15,.int .i64 a,.int .i64 b,.int .i64 c,.int .i64 n,va]] w (ActR E L P m d fr w (actS E.f E.input E.fuel g d m ⟨15,a,b,c,n,args⟩ fr h)):=by
 rw [actS_eq (by simp)]
 by_cases hn:fr.stk=[]
 ·rw [st15n hn,← stop_res (m:=m) (fr:=fr) (st:=fr.stk)]
  exact doG H F (by omega) hat 15 rfl rfl rfl rfl rfl rfl rfl rfl rfl rfl rfl a b c n va _ _ (by omega) (fun W Q vs' H F=>giv15S H F (by omega) hn a b c n va)
 ·rw [st15 hn]
  exact doG H F (by omega) hat 15 rfl rfl rfl rfl rfl rfl rfl rfl rfl rfl rfl a b c n va _ _ (by rw [List.length_dropLast];omega) (fun W Q vs' H F=>giv15 H F (by omega) S.may HO (vok hf) hn a b c n va)
theorem does17 (S:FiS E.f) (M:MeS E.f m) (g:Nat) (H:RH E w L h d Sv.run) (F:Fr E w L P m fr vs) (HO:HpOk E.f.classes E.input E.fuel h) (hf:SfOk m h.objs.length fr) (hl:fr.stk.length≤40) (hat:fr.at_≤100000) (hfu:E.fuel≤60000) (hin:E.input.length≤1000) (a b c n:Int) (args:List Int) (va:Value):Calls Tryz.prog 66 #[.pointer (some ⟨E.hb,0,none⟩),.pointer (some ⟨P.cb,0,none⟩),.agg #[.int .i64 17,.int .i64 a,.int .i64 b,.int .i64 c,.int .i64 n,va]] w (ActR E L P m d fr w (actS E.f E.input E.fuel g d m ⟨17,a,b,c,n,args⟩ fr h)):=by
 rw [actS_eq (by simp)]
 by_cases hn:fr.stk=[]
 ·rw [st17n hn,← stop_res (m:=m) (fr:=fr) (st:=fr.stk)]
  exact doG H F (by omega) hat 17 rfl rfl rfl rfl rfl rfl rfl rfl rfl rfl rfl a b c n va _ _ (by omega) (fun W Q vs' H F=>giv17S H F (by omega) hn a b c n va)
 ·rw [st17 hn,← cast_res]
  exact doG H F (by omega) hat 17 rfl rfl rfl rfl rfl rfl rfl rfl rfl rfl rfl a b c n va _ _ (by rw [List.length_dropLast];omega) (fun W Q vs' H F=>giv17 H F (by omega) S.may HO (vok hf) hn a b c n va)
theorem does18 (S:FiS E.f) (M:MeS E.f m) (g:Nat) (H:RH E w L h d Sv.run) (F:Fr E w L P m fr vs) (HO:HpOk E.f.classes E.input E.fuel h) (hf:SfOk m h.objs.length fr) (hl:fr.stk.length≤40) (hat:fr.at_≤100000) (hfu:E.fuel≤60000) (hin:E.input.length≤1000) (a b c n:Int) (args:List Int) (va:Value):Calls Tryz.prog 66 #[.pointer (some ⟨E.hb,0,none⟩),.pointer (some ⟨P.cb,0,none⟩),.agg #[.int .i64 18,.int .i64 a,.int .i64 b,.int .i64 c,.int .i64 n,va]] w (ActR E L P m d fr w (actS E.f E.input E.fuel g d m ⟨18,a,b,c,n,args⟩ fr h)):=by
 rw [actS_eq (by simp)]
 by_cases hn:fr.stk=[]
 ·rw [st18n hn,← stop_res (m:=m) (fr:=fr) (st:=fr.stk)]
  exact doG H F (by omega) hat 18 rfl rfl rfl rfl rfl rfl rfl rfl rfl rfl rfl a b c n va _ _ (by omega) (fun W Q vs' H F=>giv18S H F (by omega) hn a b c n va)
 ·rw [st18 hn]
  exact doG H F (by omega) hat 18 rfl rfl rfl rfl rfl rfl rfl rfl rfl rfl rfl a b c n va _ _ (by rw [List.length_dropLast];omega) (fun W Q vs' H F=>giv18 H F (by omega) S.may HO (vok hf) hn a b c n va)
theorem does6 (S:FiS E.f) (M:MeS E.f m) (g:Nat) (H:RH E w L h d Sv.run) (F:Fr E w L P m fr vs) (HO:HpOk E.f.classes E.input E.fuel h) (hf:SfOk m h.objs.length fr) (hl:fr.stk.length≤40) (hat:fr.at_≤100000) (hfu:E.fuel≤60000) (hin:E.input.length≤1000) (a b c n:Int) (args:List Int) (va:Value):Calls Tryz.prog 66 #[.pointer (some ⟨E.hb,0,none⟩),.pointer (some ⟨P.cb,0,none⟩),.agg #[.int .i64 6,.int .i64 a,.int .i64 b,.int .i64 c,.int .i64 n,va]] w (ActR E L P m d fr w (actS E.f E.input E.fuel g d m ⟨6,a,b,c,n,args⟩ fr h)):=by
 rw [actS_eq (by simp)]
 by_cases hn:fr.stk=[]∨fr.stk.dropLast=[]
 ·rw [st6n hn,← stop_res (m:=m) (fr:=fr) (st:=fr.stk)]
  exact doG H F (by omega) hat 6 rfl rfl rfl rfl rfl rfl rfl rfl rfl rfl rfl a b c n va _ _ (by omega) (fun W Q vs' H F=>giv6S H F (by omega) hn a b c n va)
 ·have hn1:fr.stk≠[]:=fun e=>hn (.inl e)
  have hn2:fr.stk.dropLast≠[]:=fun e=>hn (.inr e)
  rw [st6 hn1 hn2]
  exact doG H F (by omega) hat 6 rfl rfl rfl rfl rfl rfl rfl rfl rfl rfl rfl a b c n va _ _ (by rw [List.length_dropLast,List.length_dropLast];omega) (fun W Q vs' H F=>giv6 H F (by omega) S.may HO (vok hf) hn1 hn2 a b c n va)
theorem does7 (S:FiS E.f) (M:MeS E.f m) (g:Nat) (H:RH E w L h d Sv.run) (F:Fr E w L P m fr vs) (HO:HpOk E.f.classes E.input E.fuel h) (hf:SfOk m h.objs.length fr) (hl:fr.stk.length≤40) (hat:fr.at_≤100000) (hfu:E.fuel≤60000) (hin:E.input.length≤1000) (a b c n:Int) (args:List Int) (va:Value):Calls Tryz.prog 66 #[.pointer (some ⟨E.hb,0,none⟩),.pointer (some ⟨P.cb,0,none⟩),.agg #[.int .i64 7,.int .i64 a,.int .i64 b,.int .i64 c,.int .i64 n,va]] w (ActR E L P m d fr w (actS E.f E.input E.fuel g d m ⟨7,a,b,c,n,args⟩ fr h)):=by
 rw [actS_eq (by simp)]
 by_cases hn:fr.stk=[]∨fr.stk.dropLast=[]
 ·rw [st7n hn,← stop_res (m:=m) (fr:=fr) (st:=fr.stk)]
  exact doG H F (by omega) hat 7 rfl rfl rfl rfl rfl rfl rfl rfl rfl rfl rfl a b c n va _ _ (by omega) (fun W Q vs' H F=>giv7S H F (by omega) hn a b c n va)
 ·have hn1:fr.stk≠[]:=fun e=>hn (.inl e)
  have hn2:fr.stk.dropLast≠[]:=fun e=>hn (.inr e)
  rw [st7 hn1 hn2]
  exact doG H F (by omega) hat 7 rfl rfl rfl rfl rfl rfl rfl rfl rfl rfl rfl a b c n va _ _ (by rw [List.length_dropLast,List.length_dropLast];omega) (fun W Q vs' H F=>giv7 H F (by omega) S.may HO (vok hf) hn1 hn2 a b c n va)
theorem does10 (S:FiS E.f) (M:MeS E.f m) (g:Nat) (H:RH E w L h d Sv.run) (F:Fr E w L P m fr vs) (HO:HpOk E.f.classes E.input E.fuel h) (hf:SfOk m h.objs.length fr) (hl:fr.stk.length≤40) (hat:fr.at_≤100000) (hfu:E.fuel≤60000) (hin:E.input.length≤1000) (a b c n:Int) (args:List Int) (va:Value):Calls Tryz.prog 66 #[.pointer (some ⟨E.hb,0,none⟩),.pointer (some ⟨P.cb,0,none⟩),.agg #[.int .i64 10,.int .i64 a,.int .i64 b,.int .i64 c,.int .i64 n,va]] w (ActR E L P m d fr w (actS E.f E.input E.fuel g d m ⟨10,a,b,c,n,args⟩ fr h)):=by
 rw [actS_eq (by simp)]
 by_cases hn:fr.stk=[]∨fr.stk.dropLast=[]
 ·rw [st10n hn,← stop_res (m:=m) (fr:=fr) (st:=fr.stk)]
  exact doG H F (by omega) hat 10 rfl rfl rfl rfl rfl rfl rfl rfl rfl rfl rfl a b c n va _ _ (by omega) (fun W Q vs' H F=>giv10S H F (by omega) hn a b c n va)
 ·have hn1:fr.stk≠[]:=fun e=>hn (.inl e)
  have hn2:fr.stk.dropLast≠[]:=fun e=>hn (.inr e)
  rw [st10 hn1 hn2,← kindly2_res]
  exact doG H F (by omega) hat 10 rfl rfl rfl rfl rfl rfl rfl rfl rfl rfl rfl a b c n va _ _ (by rw [List.length_dropLast,List.length_dropLast];omega) (fun W Q vs' H F=>giv10 H F (by omega) hn1 hn2 a b c n va)
theorem does11 (S:FiS E.f) (M:MeS E.f m) (g:Nat) (H:RH E w L h d Sv.run) (F:Fr E w L P m fr vs) (HO:HpOk E.f.classes E.input E.fuel h) (hf:SfOk m h.objs.length fr) (hl:fr.stk.length≤40) (hat:fr.at_≤100000) (hfu:E.fuel≤60000) (hin:E.input.length≤1000) (a b c n:Int) (args:List Int) (va:Value) (ha:0≤a):Calls Tryz.prog 66 #[.pointer (some ⟨E.hb,0,none⟩),.pointer (some ⟨P.cb,0,none⟩),.agg #[.int .i64 11,.int .i64 a,.int .i64 b,.int .i64 c,.int .i64 n,va]] w (ActR E L P m d fr w (actS E.f E.input E.fuel g d m ⟨11,a,b,c,n,args⟩ fr h)):=by
 rw [actS_eq (by simp)]
 rw [st11]
 exact do11 H F (by omega) hat a b c n va ha
theorem does12 (S:FiS E.f) (M:MeS E.f m) (g:Nat) (H:RH E w L h d Sv.run) (F:Fr E w L P m fr vs) (HO:HpOk E.f.classes E.input E.fuel h) (hf:SfOk m h.objs.length fr) (hl:fr.stk.length≤40) (hat:fr.at_≤100000) (hfu:E.fuel≤60000) (hin:E.input.length≤1000) (a b c n:Int) (args:List Int) (va:Value) (ha:0≤a):Calls Tryz.prog 66 #[.pointer (some ⟨E.hb,0,none⟩),.pointer (some ⟨P.cb,0,none⟩),.agg #[.int .i64 12,.int .i64 a,.int .i64 b,.int .i64 c,.int .i64 n,va]] w (ActR E L P m d fr w (actS E.f E.input E.fuel g d m ⟨12,a,b,c,n,args⟩ fr h)):=by
 rw [actS_eq (by simp)]
 by_cases hn:fr.stk=[]
 ·rw [st12n hn]
  exact do12S H F (by omega) hat hn a b c n va
 ·rw [st12 hn]
  exact do12 H F (by omega) hat hn a b c n va ha
theorem does13 (S:FiS E.f) (M:MeS E.f m) (g:Nat) (H:RH E w L h d Sv.run) (F:Fr E w L P m fr vs) (HO:HpOk E.f.classes E.input E.fuel h) (hf:SfOk m h.objs.length fr) (hl:fr.stk.length≤40) (hat:fr.at_≤100000) (hfu:E.fuel≤60000) (hin:E.input.length≤1000) (a b c n:Int) (args:List Int) (va:Value) (ha:0≤a):Calls Tryz.prog 66 #[.pointer (some ⟨E.hb,0,none⟩),.pointer (some ⟨P.cb,0,none⟩),.agg #[.int .i64 13,.int .i64 a,.int .i64 b,.int .i64 c,.int .i64 n,va]] w (ActR E L P m d fr w (actS E.f E.input E.fuel g d m ⟨13,a,b,c,n,args⟩ fr h)):=by
 rw [actS_eq (by simp)]
 by_cases hn:fr.stk=[]
 ·rw [st13n hn]
  exact do13S H F (by omega) hat hn a b c n va
 ·rw [st13 hn]
  exact do13 H F (by omega) hat hn a b c n va ha
theorem does22 (S:FiS E.f) (M:MeS E.f m) (g:Nat) (H:RH E w L h d Sv.run) (F:Fr E w L P m fr vs) (HO:HpOk E.f.classes E.input E.fuel h) (hf:SfOk m h.objs.length fr) (hl:fr.stk.length≤40) (hat:fr.at_≤100000) (hfu:E.fuel≤60000) (hin:E.input.length≤1000) (a b c n:Int) (args:List Int) (va:Value):Calls Tryz.prog 66 #[.pointer (some ⟨E.hb,0,none⟩),.pointer (some ⟨P.cb,0,none⟩),.agg #[.int .i64 22,.int .i64 a,.int .i64 b,.int .i64 c,.int .i64 n,va]] w (ActR E L P m d fr w (actS E.f E.input E.fuel g d m ⟨22,a,b,c,n,args⟩ fr h)):=by
 rw [actS_eq (by simp)]
 by_cases hn:fr.stk=[]
 ·rw [st22n hn]
  exact do22S H F (by omega) hat hn a b c n va
 ·rw [st22 hn]
  exact do22 H F (by omega) hat hn a b c n va
theorem does21 (S:FiS E.f) (M:MeS E.f m) (g:Nat) (H:RH E w L h d Sv.run) (F:Fr E w L P m fr vs) (HO:HpOk E.f.classes E.input E.fuel h) (hf:SfOk m h.objs.length fr) (hl:fr.stk.length≤40) (hat:fr.at_≤100000) (hfu:E.fuel≤60000) (hin:E.input.length≤1000) (a b c n:Int) (args:List Int) (va:Value):Calls Tryz.prog 66 #[.pointer (some ⟨E.hb,0,none⟩),.pointer (some ⟨P.cb,0,none⟩),.agg #[.int .i64 21,.int .i64 a,.int .i64 b,.int .i64 c,.int .i64 n,va]] w (ActR E L P m d fr w (actS E.f E.input E.fuel g d m ⟨21,a,b,c,n,args⟩ fr h)):=by
 rw [actS_eq (by simp)]
 by_cases hn:fr.stk=[]
 ·rw [st21n hn]
  exact do21S H F (by omega) hat hn a b c n va
 ·rw [st21 hn]
  exact do21 H F (by omega) hat S.may hn a b c n va
theorem does24 (S:FiS E.f) (M:MeS E.f m) (g:Nat) (H:RH E w L h d Sv.run) (F:Fr E w L P m fr vs) (HO:HpOk E.f.classes E.input E.fuel h) (hf:SfOk m h.objs.length fr) (hl:fr.stk.length≤40) (hat:fr.at_≤100000) (hfu:E.fuel≤60000) (hin:E.input.length≤1000) (a b c n:Int) (args:List Int) (va:Value):Calls Tryz.prog 66 #[.pointer (some ⟨E.hb,0,none⟩),.pointer (some ⟨P.cb,0,none⟩),.agg #[.int .i64 24,.int .i64 a,.int .i64 b,.int .i64 c,.int .i64 n,va]] w (ActR E L P m d fr w (actS E.f E.input E.fuel g d m ⟨24,a,b,c,n,args⟩ fr h)):=by
 rw [actS_eq (by simp)]
 by_cases hn:fr.stk=[]
 ·rw [st24n hn]
  exact do24S H F (by omega) hat hn a b c n va
 ·rw [st24 hn]
  exact do24 H F (by omega) hat (by have:=HO.outs;have:=HO.steps;omega) hn a b c n va
theorem does23 (S:FiS E.f) (M:MeS E.f m) (g:Nat) (H:RH E w L h d Sv.run) (F:Fr E w L P m fr vs) (HO:HpOk E.f.classes E.input E.fuel h) (hf:SfOk m h.objs.length fr) (hl:fr.stk.length≤40) (hat:fr.at_≤100000) (hfu:E.fuel≤60000) (hin:E.input.length≤1000) (a b c n:Int) (args:List Int) (va:Value):Calls Tryz.prog 66 #[.pointer (some ⟨E.hb,0,none⟩),.pointer (some ⟨P.cb,0,none⟩),.agg #[.int .i64 23,.int .i64 a,.int .i64 b,.int .i64 c,.int .i64 n,va]] w (ActR E L P m d fr w (actS E.f E.input E.fuel g d m ⟨23,a,b,c,n,args⟩ fr h)):=by
 rw [actS_eq (by simp)]
 by_cases hn:fr.stk=[]
 ·rw [st23n hn]
  exact do23S H F (by omega) hat hn a b c n va
 ·rw [st23 hn]
  exact do23 H F (by omega) hat hn a b c n va
theorem does5 (S:FiS E.f) (M:MeS E.f m) (g:Nat) (H:RH E w L h d Sv.run) (F:Fr E w L P m fr vs) (HO:HpOk E.f.classes E.input E.fuel h) (hf:SfOk m h.objs.length fr) (hl:fr.stk.length≤40) (hat:fr.at_≤100000) (hfu:E.fuel≤60000) (hin:E.input.length≤1000) (a b c n:Int) (args:List Int) (va:Value) (hi:InS E.f m ⟨5,a,b,c,n,args⟩):Calls Tryz.prog 66 #[.pointer (some ⟨E.hb,0,none⟩),.pointer (some ⟨P.cb,0,none⟩),.agg #[.int .i64 5,.int .i64 a,.int .i64 b,.int .i64 c,.int .i64 n,va]] w (ActR E L P m d fr w (actS E.f E.input E.fuel g d m ⟨5,a,b,c,n,args⟩ fr h)):=by
 rw [actS_eq (by simp)]
 obtain ⟨hb,ha0,ha1⟩:=hi.slot (.inr rfl)
 have hloc:=M.locals.2
 simp only at hb ha0 ha1
 by_cases hn:fr.stk=[]
 ·rw [st5n hn]
  exact do5S H F (by omega) hat hn a b c n va
 ·rw [st5 hn]
  exact do5 H F (by omega) hat hn a b c n va ha0 (fun e=>by
   rw [hf.len]
   unfold Form.wide at ha1
   unfold width
   rw [e]
   split at ha1 <;> split <;> omega) hf.loc.pair (by rw [hf.len];omega)
theorem does4 (S:FiS E.f) (M:MeS E.f m) (g:Nat) (H:RH E w L h d Sv.run) (F:Fr E w L P m fr vs) (HO:HpOk E.f.classes E.input E.fuel h) (hf:SfOk m h.objs.length fr) (hl:fr.stk.length≤40) (hat:fr.at_≤100000) (hfu:E.fuel≤60000) (hin:E.input.length≤1000) (a b c n:Int) (args:List Int) (va:Value) (hi:InS E.f m ⟨4,a,b,c,n,args⟩):Calls Tryz.prog 66 #[.pointer (some ⟨E.hb,0,none⟩),.pointer (some ⟨P.cb,0,none⟩),.agg #[.int .i64 4,.int .i64 a,.int .i64 b,.int .i64 c,.int .i64 n,va]] w (ActR E L P m d fr w (actS E.f E.input E.fuel g d m ⟨4,a,b,c,n,args⟩ fr h)):=by
 rw [actS_eq (by simp)]
 obtain ⟨hb,ha0,ha1⟩:=hi.slot (.inl rfl)
 simp only at hb ha0 ha1
 rw [st4]
 exact do4 H F (by omega) hat a b c n va ha0 (by rw [hf.len];unfold Form.wide at ha1;split at ha1 <;> omega) F.loc F.c8
theorem does16 (S:FiS E.f) (M:MeS E.f m) (g:Nat) (H:RH E w L h d Sv.run) (F:Fr E w L P m fr vs) (HO:HpOk E.f.classes E.input E.fuel h) (hf:SfOk m h.objs.length fr) (hl:fr.stk.length≤40) (hat:fr.at_≤100000) (hfu:E.fuel≤60000) (hin:E.input.length≤1000) (a b c n:Int) (args:List Int) (va:Value) (hi:InS E.f m ⟨16,a,b,c,n,args⟩):Calls Tryz.prog 66 #[.pointer (some ⟨E.hb,0,none⟩),.pointer (some ⟨P.cb,0,none⟩),.agg #[.int .i64 16,.int .i64 a,.int .i64 b,.int .i64 c,.int .i64 n,va]] w (ActR E L P m d fr w (actS E.f E.input E.fuel g d m ⟨16,a,b,c,n,args⟩ fr h)):=by
 rw [actS_eq (by simp)]
 obtain ⟨hc0,hc1⟩:=hi.cls (.inr (.inr (.inl rfl)))
 obtain ⟨hf0,hf1⟩:=hi.fld (.inr rfl)
 simp only at hc0 hc1 hf0 hf1
 by_cases hn:fr.stk=[]∨fr.stk.dropLast=[]
 ·rw [st16n hn]
  exact do16S H F (by omega) hat hn a b c n va
 ·have hn1:fr.stk≠[]:=fun e=>hn (.inl e)
  have hn2:fr.stk.dropLast≠[]:=fun e=>hn (.inr e)
  rw [st16 hn1 hn2]
  exact do16 H F (by omega) hat S.may HO hn1 hn2 a b c n va hc0 hc1 hf0 (by unfold Form.nf at hf1;exact hf1) (vok hf _ (List.dropLast_subset _ (top_mem hn2))) (vok hf _ (top_mem hn1))
theorem does19 (S:FiS E.f) (M:MeS E.f m) (g:Nat) (H:RH E w L h d Sv.run) (F:Fr E w L P m fr vs) (HO:HpOk E.f.classes E.input E.fuel h) (hf:SfOk m h.objs.length fr) (hl:fr.stk.length≤40) (hat:fr.at_≤100000) (hfu:E.fuel≤60000) (hin:E.input.length≤1000) (HRun:RunOk E d g h) (a b c n:Int) (args:List Int) (va:Value) (hi:InS E.f m ⟨19,a,b,c,n,args⟩):Calls Tryz.prog 66 #[.pointer (some ⟨E.hb,0,none⟩),.pointer (some ⟨P.cb,0,none⟩),.agg #[.int .i64 19,.int .i64 a,.int .i64 b,.int .i64 c,.int .i64 n,va]] w (ActR E L P m d fr w (actS E.f E.input E.fuel g d m ⟨19,a,b,c,n,args⟩ fr h)):=by
 obtain ⟨hk0,hk1⟩:=hi.meth rfl
 simp only at hk0 hk1
 have hk:a.toNat < E.f.methods.length:=by omega
 have M2:=S.mes _ (meAt_mem hk)
 by_cases hlt:fr.stk.length < (meAt E.f a.toNat).params.length
 ·have e:actS E.f E.input E.fuel g d m ⟨19,a,b,c,n,args⟩ fr h=.stop 6 h:=by unfold actS;rw [st19n hlt]
  rw [e]
  exact do19S H F (by omega) hat a b c n va _ hk0 hk rfl M2.params.1 hlt
 ·have e:actS E.f E.input E.fuel g d m ⟨19,a,b,c,n,args⟩ fr h=callA m (meAt E.f a.toNat) (on fr (fr.stk.take (fr.stk.length - (meAt E.f a.toNat).params.length)) fr.at_) (call SM E.f E.input E.fuel g d (meAt E.f a.toNat) (fr.stk.drop (fr.stk.length - (meAt E.f a.toNat).params.length)) h):=by unfold actS;rw [st19 hlt]
  rw [e]
  have hR:=HRun a.toNat (fr.stk.drop (fr.stk.length - (meAt E.f a.toNat).params.length)) h hk HO rfl (fun v hv=>hf.stk v (List.mem_of_mem_drop hv)) (by rw [List.length_drop];omega) L
  revert hR
  generalize call SM E.f E.input E.fuel g d (meAt E.f a.toNat) (fr.stk.drop (fr.stk.length - (meAt E.f a.toNat).params.length)) h=r
  intro hR
  cases r with
  | ok x h' =>
   by_cases hr:(meAt E.f a.toNat).ret.kind=0
   ·exact do19V H F (by omega) hat a b c n va _ hk0 hk rfl (by omega) x h' hr hR
   ·exact do19R H F (by omega) hat a b c n va _ hk0 hk rfl (by omega) x h' hr hR
  | thrown o h'=>exact do19T H F (by omega) hat a b c n va _ hk0 hk rfl (by omega) o h' hR
  | stop c' h'=>exact do19E H F (by omega) hat a b c n va _ hk0 hk rfl (by omega) c' h' hR
theorem does (S:FiS E.f) (M:MeS E.f m) (g:Nat) (H:RH E w L h d Sv.run) (F:Fr E w L P m fr vs) (HO:HpOk E.f.classes E.input E.fuel h) (hf:SfOk m h.objs.length fr) (hl:fr.stk.length≤40) (hat:fr.at_≤100000) (hfu:E.fuel≤60000) (hin:E.input.length≤1000) (HRun:RunOk E d g h) (i:Ins) (hi:InS E.f m i) (hne:i.op≠20) (va:Value):Calls Tryz.prog 66 #[.pointer (some ⟨E.hb,0,none⟩),.pointer (some ⟨P.cb,0,none⟩),.agg #[.int .i64 i.op,.int .i64 i.a,.int .i64 i.b,.int .i64 i.c,.int .i64 i.n,va]] w (ActR E L P m d fr w (actS E.f E.input E.fuel g d m i fr h)):=by
 have hop:=hi.op
 have hj:∀ k,i.op=k→k=11∨k=12∨k=13→0≤i.a:=fun k e q=>(hi.jump (by omega)).1
 obtain ⟨op,a,b,c,n,args⟩:=i
 simp only at hne hop hj ⊢
 by_cases q1:op=1
 ·subst q1
  exact does1 S M g H F HO hf hl hat hfu hin a b c n args va
 by_cases q2:op=2
 ·subst q2
  exact does2 S M g H F HO hf hl hat hfu hin a b c n args va
 by_cases q3:op=3
 ·subst q3
  exact does3 S M g H F HO hf hl hat hfu hin a b c n args va
 by_cases q4:op=4
 ·subst q4
  exact does4 S M g H F HO hf hl hat hfu hin a b c n args va hi
 by_cases q5:op=5
 ·subst q5
  exact does5 S M g H F HO hf hl hat hfu hin a b c n args va hi
 by_cases q6:op=6
 ·subst q6
  exact does6 S M g H F HO hf hl hat hfu hin a b c n args va
 by_cases q7:op=7
 ·subst q7
  exact does7 S M g H F HO hf hl hat hfu hin a b c n args va
 by_cases q8:op=8
 ·subst q8
  exact does8 S M g H F HO hf hl hat hfu hin a b c n args va
 by_cases q9:op=9
 ·subst q9
  exact does9 S M g H F HO hf hl hat hfu hin a b c n args va
 by_cases q10:op=10
 ·subst q10
  exact does10 S M g H F HO hf hl hat hfu hin a b c n args va
 by_cases q11:op=11
 ·subst q11
  exact does11 S M g H F HO hf hl hat hfu hin a b c n args va (hj 11 rfl (.inl rfl))
 by_cases q12:op=12
 ·subst q12
  exact does12 S M g H F HO hf hl hat hfu hin a b c n args va (hj 12 rfl (.inr (.inl rfl)))
 by_cases q13:op=13
 ·subst q13
  exact does13 S M g H F HO hf hl hat hfu hin a b c n args va (hj 13 rfl (.inr (.inr rfl)))
 by_cases q14:op=14
 ·subst q14
  exact does14 S M g H F HO hf hl hat hfu hin a b c n args va
 by_cases q15:op=15
 ·subst q15
  exact does15 S M g H F HO hf hl hat hfu hin a b c n args va
 by_cases q16:op=16
 ·subst q16
  exact does16 S M g H F HO hf hl hat hfu hin a b c n args va hi
 by_cases q17:op=17
 ·subst q17
  exact does17 S M g H F HO hf hl hat hfu hin a b c n args va
 by_cases q18:op=18
 ·subst q18
  exact does18 S M g H F HO hf hl hat hfu hin a b c n args va
 by_cases q19:op=19
 ·subst q19
  exact does19 S M g H F HO hf hl hat hfu hin HRun a b c n args va hi
 by_cases q21:op=21
 ·subst q21
  exact does21 S M g H F HO hf hl hat hfu hin a b c n args va
 by_cases q22:op=22
 ·subst q22
  exact does22 S M g H F HO hf hl hat hfu hin a b c n args va
 by_cases q23:op=23
 ·subst q23
  exact does23 S M g H F HO hf hl hat hfu hin a b c n args va
 by_cases q24:op=24
 ·subst q24
  exact does24 S M g H F HO hf hl hat hfu hin a b c n args va
 by_cases q25:op=25
 ·subst q25
  exact does25 S M g H F HO hf hl hat hfu hin a b c n args va
 omega
end
end Rhw
namespace Run
open D
theorem stores_app:∀ (vs us:List Vl) (l:List Vl) (a:Nat),stores l a (vs++us)=stores (stores l a vs) (a+size vs) us:=by
 intro vs
 induction vs with
 | nil=>intro us l a;simp [stores,size]
 | cons v vs ih=>intro us l a;simp only [List.cons_append,stores,size,ih];congr 1;omega
theorem stores_take {args:List Vl}{i:Nat}(hi:i < args.length) (l:List Vl):stores l 0 (args.take (i+1))=store (stores l 0 (args.take i)) (size (args.take i)) args[i]:=by
 rw [List.take_succ_eq_append_getElem hi,stores_app]
 simp [stores]
theorem size_take {args:List Vl}{i:Nat}(hi:i < args.length):size (args.take (i+1))=size (args.take i)+width args[i]:=by
 rw [List.take_succ_eq_append_getElem hi,Rhw.size_app]
 simp [size]
theorem size_take_le {args:List Vl}:∀ i,size (args.take i)≤size args:=by
 intro i
 have:=Rhw.size_app (args.take i) (args.drop i)
 rw [List.take_append_drop] at this
 omega
end Run
namespace Rhw
open Num Rd D Run Mem HierW Hpw
section
variable {E:Ev}{w w':World}{L L':RL}{h h':Hp}{d:Nat}{s:Sv}{P:Pl}{m:Me}{fr:Sf}{vs:Value}
theorem enterF (H:RH E w L h d Sv.run) (hm:Hier.may E.f.classes=true){vp vc vh va:Value}(m:Me) (hp:Sl 2 ETy w E.B vp m.params) (args:List Vl) (X:Nat→Prop) (ha:VS w X va args) (hX:X E.hb) (hl:args.length=m.params.length) (hv:∀ v∈args,v.kind=3→v.n < h.objs.length) (hd:d≤20) (c:Int) (hc:(allOf E.f.classes h args m.params=false∧c=6)∨(allOf E.f.classes h args m.params=true∧20≤d∧c=5)) :
  Calls Tryz.prog 59 #[.pointer (some ⟨E.hb,0,none⟩),.agg #[vp,.int .i64 m.ret.kind,.int .i64 m.ret.cls,.int .i64 m.stack,.int .i64 m.locals,.int .i64 m.regs,vc,vh],va] w (Keeps E L h d (Sv.ends c) w (.bool false)) :=
 (enter H hm m hp args X ha hX hl hv hd).mono fun _ _ R=>by
  rcases R with ⟨q,R⟩ | ⟨q,q2,R⟩ | ⟨q,q2,R⟩
  ·rcases hc with ⟨_,rfl⟩ | ⟨h1,_⟩
   ·exact R
   ·rw [q] at h1;cases h1
  ·rcases hc with ⟨h1,_⟩ | ⟨_,_,rfl⟩
   ·rw [q] at h1;cases h1
   ·exact R
  ·rcases hc with ⟨h1,_⟩ | ⟨_,h2,_⟩
   ·rw [q] at h1;cases h1
   ·omega
theorem enterT (H:RH E w L h d Sv.run) (hm:Hier.may E.f.classes=true){vp vc vh va:Value}(m:Me) (hp:Sl 2 ETy w E.B vp m.params) (args:List Vl) (X:Nat→Prop) (ha:VS w X va args) (hX:X E.hb) (hl:args.length=m.params.length) (hv:∀ v∈args,v.kind=3→v.n < h.objs.length) (hd:d < 20) (hc:allOf E.f.classes h args m.params=true) :
  Calls Tryz.prog 59 #[.pointer (some ⟨E.hb,0,none⟩),.agg #[vp,.int .i64 m.ret.kind,.int .i64 m.ret.cls,.int .i64 m.stack,.int .i64 m.locals,.int .i64 m.regs,vc,vh],va] w (Keeps E L h (d+1) Sv.run w (.bool true)) :=
 (enter H hm m hp args X ha hX hl hv (by omega)).mono fun _ _ R=>by
  rcases R with ⟨q,R⟩ | ⟨q,q2,R⟩ | ⟨q,q2,R⟩
  ·rw [q] at hc;cases hc
  ·omega
  ·exact R
set_option maxRecDepth 100000 in
theorem runF (S:FiS E.f) (H:RH E w L h d Sv.run) (m:Me){mv va:Value}(hmv:VMe w E.B mv m) (args:List Vl) (X:Nat→Prop) (ha:VS w X va args) (hX:∀ k,own E L k→X k) (hl:args.length=m.params.length) (hv:∀ v∈args,v.kind=3→v.n < h.objs.length) (hd:d≤20) (c:Int) (hc:(allOf E.f.classes h args m.params=false∧c=6)∨(allOf E.f.classes h args m.params=true∧20≤d∧c=5)) :
  Calls Tryz.prog 32 #[.pointer (some ⟨E.hb,0,none⟩),mv,va] w (RRv E L d w (.stop c h)):=by
 have HH:=Lib.hid H
 have hhb:=H.rows.base.2
 obtain ⟨vp,vc,vh,rfl,o1,hp,hco,hha⟩:=hmv
 obtain ⟨pa,pcap,rfl,p1,p2,_⟩:=id hp
 obtain ⟨ia,icap,rfl,p3,p4,_⟩:=id hco
 obtain ⟨xa,xcap,rfl,p5,p6,_⟩:=id hha
 have HP:=Lib.hid hp
 have HA:=Lib.hid ha
 have HC:=Lib.hid hc
 have HL:=Lib.hid hl
 have HV:=Lib.hid hv
 have hxx:=Lib.hid (hX _ (.inl rfl))
 have hEB:E.B≤w.heap.size:=by have:=H.rows.base;omega
 clear H hp hco hha ha hc hl hv hX
 go_enter Tryz.func32,Tryz.ntmps32
 go_wp2_with (go_at_call 59;refine (enterF (HH.out.below (by exact Rd.byB)) S.may m (HP.out.mono mTy ((kpB (X:=fun _=>False) (w0:=w) (by exact Rd.byB)).below hEB (fun _ e=>e.elim)) (Nat.le_refl _)) args X (HA.out.next (kpB (X:=fun _=>False) (w0:=w) (by exact Rd.byB)) (fun _ _ e=>e.elim) (fun _ _ e=>e)) hxx.out HL.out HV.out hd c HC.out).mono ?_;rintro e w1 ⟨rfl,H1,K1⟩;have r0:=K1.cell (c:=w.heap.size+1) (o:=0) (v:=.int .i64 0) (by go_simp) (fun hk=>(fresh_b HH.out (by omega)).2 hk);have r1:=K1.cell (c:=w.heap.size+1) (o:=1) (v:=.int .i64 0) (by go_simp) (fun hk=>(fresh_b HH.out (by omega)).2 hk);have f0:=K1.frz (c:=w.heap.size+1) (o:=0) (b:=false) (by go_simp) (by simp) (fun hk=>(fresh_b HH.out (by omega)).2 hk);have f1:=K1.frz (c:=w.heap.size+1) (o:=1) (b:=false) (by go_simp) (by simp) (fun hk=>(fresh_b HH.out (by omega)).2 hk);replace H1:=Lib.hid H1;replace K1:=Lib.hid K1)
 refine bodyPost_ret (v:=.agg #[.int .i64 0,.int .i64 0]) (by simp [results,Tryz.results32,go_sem] <;> go_simp) rfl ?_
 exact ⟨0,0,rfl,L,kres2 ((kpB (by exact Rd.byB)).trans K1.out (fun _ h=>.inl h)) (by omega) _ _,same_own,H1.out.res2 (fresh_b HH.out (by omega)) _ _⟩
end
end Rhw
end Go.Proofs.YtncmhenfgbcihabGreat
