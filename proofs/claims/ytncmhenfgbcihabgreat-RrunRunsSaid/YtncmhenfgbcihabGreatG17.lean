/- Parts of the proof: Ye, Yf, Yg, Yh, Yi, Qg, Yj. -/
import Derived.Test.YtncmhenfgbcihabGreatG16
import Derived.RegionTactic
import Derived.ChangeAlike
import Derived.Deep.AppendLies
import Derived.Deep.RegionLaw
import Derived.BigRegion
set_option linter.unusedSimpArgs false
set_option linter.unusedVariables false
set_option maxHeartbeats 8000000
namespace Go.Proofs.YtncmhenfgbcihabGreat
open Go.RowKit
namespace Hpr
open Num Rd D Run Mem HierW Hpw
section
variable {E:Ev}{w w' w1 w2:World}{L L' L1:Lay}{h h' h1 h2:Hp}{d:Nat}{P:PS}{m:Me}{vs vs1:Value}{rg:List Vl}{ap:Nat}
theorem newR (H:PH E w L h d) (hm:Hier.may E.f.classes=true) (cl:Int):Calls Tryz.prog 163 #[.pointer (some ⟨E.hb,0,none⟩),.int .i64 cl] w (PanR E L d w vval (Run.new E.f.classes cl h)):=by
 unfold Run.new
 by_cases q:100≤h.objs.length
 ·rw [if_pos q];exact (newFull H cl q).mono fun e w' ⟨he,hb⟩=>⟨he,Lft.of_below H hb⟩
 ·rw [if_neg q];exact (newOk H hm cl (by omega)).mono fun e w' ⟨he,hb⟩=>⟨he,hb⟩
theorem inR (H:PH E w L h d) (hl:E.input.length≤1000):Calls Tryz.prog 169 #[.pointer (some ⟨E.hb,0,none⟩)] w (PanR E L d w vval (Run.takeIn E.input h)):=by
 unfold Run.takeIn
 by_cases q:E.input.length≤h.used
 ·rw [if_pos q];exact (inStop H q).mono fun e w' ⟨he,hb⟩=>⟨he,Lft.of_below H hb⟩
 ·rw [if_neg q];exact (inOk H (by omega) hl).mono fun e w' ⟨he,h2,hk⟩=>⟨he,⟨L,hk,same_own,h2⟩⟩
set_option maxRecDepth 100000 in
theorem pl9 (S:ST E w L P m d h ⟨rg,ap,Vl.nil,Vl.nil⟩ vs) (hP:Paired rg) (h1000:rg.length≤1000) (a b c n:Int) (args:List Int) (sa:Option Addr) (sn sc:Nat) (ha0:0≤a) (haw:a.toNat+1≤rg.length) (hb0:0≤b) (hb':b.toNat < rg.length) (hc0:0≤c) (hc':c.toNat < rg.length) :
  Calls Tryz.prog 151 #[.pointer (some ⟨P.cb,0,none⟩),.agg #[.int .i64 9,.int .i64 a,.int .i64 b,.int .i64 c,.int .i64 n,.slice sa sn sc]] w (PlR E L P m d vs ⟨rg,ap,Vl.nil,Vl.nil⟩ (.tuple #[]) w (oA (rstep E.f E.input m ⟨9,a,b,c,n,args⟩ ⟨rg,ap,Vl.nil,Vl.nil⟩ h))):=by
 obtain ⟨ka,rfl⟩:∃ k:Nat,a=(k:Int):=⟨a.toNat,by omega⟩
 obtain ⟨kb,rfl⟩:∃ k:Nat,b=(k:Int):=⟨b.toNat,by omega⟩
 obtain ⟨kc,rfl⟩:∃ k:Nat,c=(k:Int):=⟨c.toNat,by omega⟩
 obtain ⟨⟨bk,bn⟩,hxb⟩:∃ x,Hid (rg.getD kb Vl.nil=x):=⟨_,Lib.hid rfl⟩;have hrb:rd ⟨rg,ap,Vl.nil,Vl.nil⟩ (kb:Int)=⟨bk,bn⟩:=by unfold rd;rw [Int.toNat_natCast];exact hxb.out
 obtain ⟨⟨ck,cn⟩,hxc⟩:∃ x,Hid (rg.getD kc Vl.nil=x):=⟨_,Lib.hid rfl⟩;have hrc:rd ⟨rg,ap,Vl.nil,Vl.nil⟩ (kc:Int)=⟨ck,cn⟩:=by unfold rd;rw [Int.toNat_natCast];exact hxc.out
 rw [rt9];rw [hrb,hrc];simp only [Int.toNat_natCast] at haw hb' hc';have HS:=Lib.hid S;have hcb:=S.cbw;have hcb1:P.cb < w.heap.size+1:=by omega
 have nf:=S.fo_new (Nat.le_refl _);have c0:w.cell? ⟨P.cb,0,none⟩=some (.pointer (some ⟨E.hb,0,none⟩)):=S.c0;have c9:w.cell? ⟨P.cb,9,none⟩=some (.slice (some ⟨P.lb,0,none⟩) rg.length rg.length):=S.c9;have hfl:=fieldN;clear S
 go_enter Tryz.func151,Tryz.ntmps151
 go_wp2_with fail
 refine Drawn.hd (fun w'=>w'.cell? ⟨w.heap.size,1,none⟩=some (.int .i64 ka)∧w'.cell? ⟨w.heap.size,2,none⟩=some (.int .i64 kb)∧w'.cell? ⟨w.heap.size,3,none⟩=some (.int .i64 kc)) (h:=fun hHeld=>?_);refine dT 0 117 ?_;refine dT 1 118 ?_;refine dT 2 119 ?_;refine dT 3 120 ?_;refine dT 4 121 ?_;refine dT 5 122 ?_;refine dT 8 125 ?_;refine dT 9 126 ?_;refine dT 10 127 ?_;refine Drawn.cl 6 (fun K hK=>?_);go_simp;refine (readR (HS.out.below (by exact Rd.byB)) kb hb' h1000 ⟨bk,bn⟩ hxb.out 2).mono ?_
 rintro e w11 ⟨⟨qb,rfl⟩ | ⟨qb,rfl⟩,hb⟩
 ·simp only at qb;have rb:=Lib.hid qb;clear qb;have kk:∀ (b o:Nat) (u:Value),World.cell? _ ⟨b,o,none⟩=some u→w11.cell? ⟨b,o,none⟩=some u:=fun b o u hc=>kept hb (cell_lt hc) hc;have yw11_0:=kk (w.heap.size) (1) (.int .i64 ka) (by go_simp)
  have yw11_1:=kk (w.heap.size) (2) (.int .i64 kb) (by go_simp)
  have yw11_2:=kk (w.heap.size) (3) (.int .i64 kc) (by go_simp)
  clear kk;have Hw11:=Lib.hid (show Below w.heap.size w w11 from Below.trans (by exact Rd.byB) (hb.mono Rd.byL))
  clear hb
  go_wp2_with fail
  refine Drawn.bk hK (hS:=by (try dsimp only);exact ⟨yw11_0,yw11_1,yw11_2⟩) (h:=fun hHeld=>?_)
  clear hK K;refine dT 7 124 ?_;refine Drawn.cl 11 (fun K hK=>?_);go_simp;refine (readR (HS.out.below Hw11.out) kc hc' h1000 ⟨ck,cn⟩ hxc.out 2).mono ?_;rintro e w12 ⟨⟨qc,rfl⟩ | ⟨qc,rfl⟩,hb⟩
  ·simp only at qc;have rc:=Lib.hid qc;clear qc;have kk:∀ (b o:Nat) (u:Value),World.cell? _ ⟨b,o,none⟩=some u→w12.cell? ⟨b,o,none⟩=some u:=fun b o u hc=>kept hb (cell_lt hc) hc;have yw12_0:=kk (w.heap.size) (1) (.int .i64 ka) (by go_simp)
   have yw12_1:=kk (w.heap.size) (2) (.int .i64 kb) (by go_simp)
   have yw12_2:=kk (w.heap.size) (3) (.int .i64 kc) (by go_simp)
   clear kk;have Hw12:=Lib.hid (show Below w.heap.size w w12 from Hw11.out.trans (Below.trans (by exact Rd.byB) (hb.mono (by have:=Hw11.out.size;first | exact this | (simp;omega)))))
   clear hb
   go_wp2_with fail
   refine Drawn.bk hK (hS:=by (try dsimp only);exact ⟨yw12_0,yw12_1,yw12_2⟩) (h:=fun hHeld=>?_)
   clear hK K;refine dT 12 129 ?_;refine Drawn.cl 13 (fun K hK=>?_);go_simp;refine (NumW.cmp bn cn _).mono ?_;rintro e w9 ⟨rfl,rfl⟩
   go_wp2_with fail
   refine Drawn.bk hK (hS:=by (try dsimp only);exact ⟨yw12_0,yw12_1,yw12_2⟩) (h:=fun hHeld=>?_)
   clear hK K;refine Drawn.cl 14 (fun K hK=>?_);go_simp;refine (writeR (HS.out.below Hw12.out) hP ka ⟨1,Num.cmp bn cn⟩ (by simp [width];exact haw) h1000).mono ?_
   rintro e w13 ⟨rfl,A⟩;have u0:=A.box (b:=w.heap.size) (o:=1) (v:=.int .i64 ka) (by go_simp) nf
   have u1:=A.box (b:=w.heap.size) (o:=2) (v:=.int .i64 kb) (by go_simp) nf
   have u2:=A.box (b:=w.heap.size) (o:=3) (v:=.int .i64 kc) (by go_simp) nf
   go_wp2_with fail
   refine Drawn.bk hK (hS:=by (try dsimp only);exact ⟨u0,u1,u2⟩) (h:=fun hHeld=>?_)
   clear hK K;refine dN ?_
   go_wp2
   go_end0
   exact plr_goE (by unfold rkind;rw [if_pos rb.out,if_pos rc.out];rfl) (Gr.of_below Hw12.out) A
  ·have Hw12:=Lib.hid (show Below w.heap.size w w12 from Hw11.out.trans (Below.trans (by exact Rd.byB) (hb.mono (by have:=Hw11.out.size;first | exact this | (simp;omega)))))
   unfold pan;refine And.intro rfl ?_;exact plr_stuckE (by simp [rkind,rb.out,qc,oA]) (Gr.of_below Hw12.out) (HS.out.below Hw12.out)
 ·have Hw11:=Lib.hid (show Below w.heap.size w w11 from Below.trans (by exact Rd.byB) (hb.mono Rd.byL))
  unfold pan;refine And.intro rfl ?_;exact plr_stuckE (by simp [rkind,qb,oA]) (Gr.of_below Hw11.out) (HS.out.below Hw11.out)
set_option maxRecDepth 100000 in
theorem pl13 (S:ST E w L P m d h ⟨rg,ap,Vl.nil,Vl.nil⟩ vs) (hP:Paired rg) (h1000:rg.length≤1000) (a b c n:Int) (args:List Int) (sa:Option Addr) (sn sc:Nat) (hm:Hier.may E.f.classes=true) (ha0:0≤a) (hw:∀ v h',Run.new E.f.classes b h=.ok v h'→a.toNat+width v≤rg.length) :
  Calls Tryz.prog 151 #[.pointer (some ⟨P.cb,0,none⟩),.agg #[.int .i64 13,.int .i64 a,.int .i64 b,.int .i64 c,.int .i64 n,.slice sa sn sc]] w (PlR E L P m d vs ⟨rg,ap,Vl.nil,Vl.nil⟩ (.tuple #[]) w (oA (rstep E.f E.input m ⟨13,a,b,c,n,args⟩ ⟨rg,ap,Vl.nil,Vl.nil⟩ h))):=by
 obtain ⟨ka,rfl⟩:∃ k:Nat,a=(k:Int):=⟨a.toNat,by omega⟩
 rw [rt13];simp only [Int.toNat_natCast] at hw;obtain ⟨r,hr⟩:∃ r,Hid (Run.new E.f.classes b h=r):=⟨_,Lib.hid rfl⟩;rw [hr.out];replace hw:=Lib.hid hw;have HS:=Lib.hid S;have hcb:=S.cbw;have hcb1:P.cb < w.heap.size+1:=by omega
 have nf:=S.fo_new (Nat.le_refl _);have c0:w.cell? ⟨P.cb,0,none⟩=some (.pointer (some ⟨E.hb,0,none⟩)):=S.c0;have c9:w.cell? ⟨P.cb,9,none⟩=some (.slice (some ⟨P.lb,0,none⟩) rg.length rg.length):=S.c9;have hfl:=fieldN;clear S
 go_enter Tryz.func151,Tryz.ntmps151
 go_wp2_with fail
 refine Drawn.hd (fun w'=>w'.cell? ⟨P.cb,0,none⟩=some (.pointer (some ⟨E.hb,0,none⟩))∧w'.cell? ⟨P.cb,9,none⟩=some (.slice (some ⟨P.lb,0,none⟩) rg.length rg.length)∧w'.cell? ⟨w.heap.size,1,none⟩=some (.int .i64 ka)∧w'.cell? ⟨w.heap.size,2,none⟩=some (.int .i64 b)) (h:=fun hHeld=>?_);refine dT 0 134 ?_;refine dT 1 135 ?_;refine dT 2 136 ?_;refine dT 3 137 ?_;refine dT 4 138 ?_;refine dT 5 139 ?_;refine dT 6 140 ?_;refine dT 7 141 ?_;refine dT 8 142 ?_;refine dT 9 143 ?_;refine dT 10 144 ?_;refine dT 11 145 ?_;refine Drawn.cl 12 (fun K hK=>?_);go_simp;refine (newR (HS.out.below (by exact Rd.byB)).H hm b).mono ?_
 rw [hr.out];rintro e w14 hR
 cases r with
 | thrown o h2 =>
  obtain ⟨rfl,A⟩:=hR;obtain ⟨L5,G5,S5⟩:=Gr.of_heap A (HS.out.below (by exact Rd.byB))
  unfold pan;refine And.intro rfl ?_;exact plr_thrown ((Gr.of_below (w:=w) (by exact Rd.byB)).trans G5) S5
 | stop c2 h2 =>
  obtain ⟨rfl,A⟩:=hR;obtain ⟨L5,G5,S5⟩:=Gr.of_heap A (HS.out.below (by exact Rd.byB))
  unfold pan;refine And.intro rfl ?_;exact plr_stop ((Gr.of_below (w:=w) (by exact Rd.byB)).trans G5) S5
 | ok x h2 =>
  obtain ⟨xk,xn⟩:=x;obtain ⟨rfl,A⟩:=hR;unfold vval;obtain ⟨L5,G5,S5⟩:=Gr.of_heap A (HS.out.below (by exact Rd.byB))
  have z0:w14.cell? ⟨P.cb,0,none⟩=some (.pointer (some ⟨E.hb,0,none⟩)):=S5.c0;have z1:w14.cell? ⟨P.cb,9,none⟩=some (.slice (some ⟨P.lb,0,none⟩) rg.length rg.length):=S5.c9;have z2:=G5.cell (b:=w.heap.size) (o:=1) (v:=.int .i64 ka) nf (by go_simp)
  have z3:=G5.cell (b:=w.heap.size) (o:=2) (v:=.int .i64 b) nf (by go_simp)
  have nf5:=G5.nf (by simp) nf
  have GB:=Lib.hid ((Gr.of_below (w:=w) (by exact Rd.byB)).trans G5)
  replace S5:=Lib.hid S5;clear A G5
  go_wp2_with fail
  refine Drawn.bk hK (hS:=by (try dsimp only);exact ⟨z0,z1,z2,z3⟩) (h:=fun hHeld=>?_)
  clear hK K;refine Drawn.cl 13 (fun K hK=>?_);go_simp;refine (storeR S5.out hP ka ⟨xk,xn⟩ (hw.out _ _ hr.out) h1000).mono ?_;rintro e w15 ⟨rfl,A⟩;obtain ⟨L70,v70,G70,S70⟩:=A.opn;have u0:w15.cell? ⟨P.cb,0,none⟩=some (.pointer (some ⟨E.hb,0,none⟩)):=S70.c0;obtain ⟨L71,v71,G71,S71⟩:=A.opn;have u1:w15.cell? ⟨P.cb,9,none⟩=some (.slice (some ⟨P.lb,0,none⟩) rg.length rg.length):=by have:=S71.c9;rw [Run.store_len] at this;exact this
  have u2:=A.box (b:=w.heap.size) (o:=1) (v:=.int .i64 ka) (by go_simp) nf5
  have u3:=A.box (b:=w.heap.size) (o:=2) (v:=.int .i64 b) (by go_simp) nf5
  go_wp2_with fail
  refine Drawn.bk hK (hS:=by (try dsimp only);exact ⟨u0,u1,u2,u3⟩) (h:=fun hHeld=>?_)
  clear hK K;refine dN ?_
  go_wp2
  go_end0
  exact plr_goE (by rfl) GB.out A
set_option maxRecDepth 100000 in
theorem pl24 (S:ST E w L P m d h ⟨rg,ap,Vl.nil,Vl.nil⟩ vs) (hP:Paired rg) (h1000:rg.length≤1000) (a b c n:Int) (args:List Int) (sa:Option Addr) (sn sc:Nat) (hin:E.input.length≤1000) (ha0:0≤a) (hw:∀ v h',Run.takeIn E.input h=.ok v h'→a.toNat+width v≤rg.length) :
  Calls Tryz.prog 151 #[.pointer (some ⟨P.cb,0,none⟩),.agg #[.int .i64 24,.int .i64 a,.int .i64 b,.int .i64 c,.int .i64 n,.slice sa sn sc]] w (PlR E L P m d vs ⟨rg,ap,Vl.nil,Vl.nil⟩ (.tuple #[]) w (oA (rstep E.f E.input m ⟨24,a,b,c,n,args⟩ ⟨rg,ap,Vl.nil,Vl.nil⟩ h))):=by
 obtain ⟨ka,rfl⟩:∃ k:Nat,a=(k:Int):=⟨a.toNat,by omega⟩
 rw [rt24];simp only [Int.toNat_natCast] at hw;obtain ⟨r,hr⟩:∃ r,Hid (Run.takeIn E.input h=r):=⟨_,Lib.hid rfl⟩;rw [hr.out];replace hw:=Lib.hid hw;have HS:=Lib.hid S;have hcb:=S.cbw;have hcb1:P.cb < w.heap.size+1:=by omega
 have nf:=S.fo_new (Nat.le_refl _);have c0:w.cell? ⟨P.cb,0,none⟩=some (.pointer (some ⟨E.hb,0,none⟩)):=S.c0;have c9:w.cell? ⟨P.cb,9,none⟩=some (.slice (some ⟨P.lb,0,none⟩) rg.length rg.length):=S.c9;have hfl:=fieldN;clear S
 go_enter Tryz.func151,Tryz.ntmps151
 go_wp2_with fail
 refine Drawn.hd (fun w'=>w'.cell? ⟨P.cb,0,none⟩=some (.pointer (some ⟨E.hb,0,none⟩))∧w'.cell? ⟨P.cb,9,none⟩=some (.slice (some ⟨P.lb,0,none⟩) rg.length rg.length)∧w'.cell? ⟨w.heap.size,1,none⟩=some (.int .i64 ka)) (h:=fun hHeld=>?_);refine dT 0 258 ?_;refine dT 1 259 ?_;refine dT 2 260 ?_;refine dT 3 261 ?_;refine dT 4 262 ?_;refine dT 5 263 ?_;refine dT 6 264 ?_;refine dT 7 265 ?_;refine dT 8 266 ?_;refine dT 9 267 ?_;refine Drawn.cl 10 (fun K hK=>?_);go_simp;refine (inR (HS.out.below (by exact Rd.byB)).H hin).mono ?_
 rw [hr.out];rintro e w16 hR
 cases r with
 | thrown o h2 =>
  obtain ⟨rfl,A⟩:=hR;obtain ⟨L5,G5,S5⟩:=Gr.of_heap A (HS.out.below (by exact Rd.byB))
  unfold pan;refine And.intro rfl ?_;exact plr_thrown ((Gr.of_below (w:=w) (by exact Rd.byB)).trans G5) S5
 | stop c2 h2 =>
  obtain ⟨rfl,A⟩:=hR;obtain ⟨L5,G5,S5⟩:=Gr.of_heap A (HS.out.below (by exact Rd.byB))
  unfold pan;refine And.intro rfl ?_;exact plr_stop ((Gr.of_below (w:=w) (by exact Rd.byB)).trans G5) S5
 | ok x h2 =>
  obtain ⟨xk,xn⟩:=x;obtain ⟨rfl,A⟩:=hR;unfold vval;obtain ⟨L5,G5,S5⟩:=Gr.of_heap A (HS.out.below (by exact Rd.byB))
  have z0:w16.cell? ⟨P.cb,0,none⟩=some (.pointer (some ⟨E.hb,0,none⟩)):=S5.c0;have z1:w16.cell? ⟨P.cb,9,none⟩=some (.slice (some ⟨P.lb,0,none⟩) rg.length rg.length):=S5.c9;have z2:=G5.cell (b:=w.heap.size) (o:=1) (v:=.int .i64 ka) nf (by go_simp)
  have nf5:=G5.nf (by simp) nf
  have GB:=Lib.hid ((Gr.of_below (w:=w) (by exact Rd.byB)).trans G5)
  replace S5:=Lib.hid S5;clear A G5
  go_wp2_with fail
  refine Drawn.bk hK (hS:=by (try dsimp only);exact ⟨z0,z1,z2⟩) (h:=fun hHeld=>?_)
  clear hK K;refine Drawn.cl 11 (fun K hK=>?_);go_simp;refine (storeR S5.out hP ka ⟨xk,xn⟩ (hw.out _ _ hr.out) h1000).mono ?_;rintro e w17 ⟨rfl,A⟩;obtain ⟨L70,v70,G70,S70⟩:=A.opn;have u0:w17.cell? ⟨P.cb,0,none⟩=some (.pointer (some ⟨E.hb,0,none⟩)):=S70.c0;obtain ⟨L71,v71,G71,S71⟩:=A.opn;have u1:w17.cell? ⟨P.cb,9,none⟩=some (.slice (some ⟨P.lb,0,none⟩) rg.length rg.length):=by have:=S71.c9;rw [Run.store_len] at this;exact this
  have u2:=A.box (b:=w.heap.size) (o:=1) (v:=.int .i64 ka) (by go_simp) nf5
  go_wp2_with fail
  refine Drawn.bk hK (hS:=by (try dsimp only);exact ⟨u0,u1,u2⟩) (h:=fun hHeld=>?_)
  clear hK K;refine dN ?_
  go_wp2
  go_end0
  exact plr_goE (by rfl) GB.out A
set_option maxRecDepth 100000 in
theorem pl14 (S:ST E w L P m d h ⟨rg,ap,Vl.nil,Vl.nil⟩ vs) (hP:Paired rg) (h1000:rg.length≤1000) (a b c n:Int) (args:List Int) (sa:Option Addr) (sn sc:Nat) (hm:Hier.may E.f.classes=true) (ha0:0≤a) (hb0:0≤b) (hb':b.toNat < rg.length) (hv:(rd ⟨rg,ap,Vl.nil,Vl.nil⟩ b).kind=3→(rd ⟨rg,ap,Vl.nil,Vl.nil⟩ b).n < h.objs.length) (hw:∀ v h',Run.get E.f.classes (rd ⟨rg,ap,Vl.nil,Vl.nil⟩ b) c n h=.ok v h'→a.toNat+width v≤rg.length) :
  Calls Tryz.prog 151 #[.pointer (some ⟨P.cb,0,none⟩),.agg #[.int .i64 14,.int .i64 a,.int .i64 b,.int .i64 c,.int .i64 n,.slice sa sn sc]] w (PlR E L P m d vs ⟨rg,ap,Vl.nil,Vl.nil⟩ (.tuple #[]) w (oA (rstep E.f E.input m ⟨14,a,b,c,n,args⟩ ⟨rg,ap,Vl.nil,Vl.nil⟩ h))):=by
 obtain ⟨ka,rfl⟩:∃ k:Nat,a=(k:Int):=⟨a.toNat,by omega⟩
 obtain ⟨kb,rfl⟩:∃ k:Nat,b=(k:Int):=⟨b.toNat,by omega⟩
 obtain ⟨⟨bk,bn⟩,hxb⟩:∃ x,Hid (rg.getD kb Vl.nil=x):=⟨_,Lib.hid rfl⟩;have hrb:rd ⟨rg,ap,Vl.nil,Vl.nil⟩ (kb:Int)=⟨bk,bn⟩:=by unfold rd;rw [Int.toNat_natCast];exact hxb.out
 rw [rt14];rw [hrb] at hv hw ⊢;simp only [Int.toNat_natCast] at hw hb';obtain ⟨r,hr⟩:∃ r,Hid (Run.get E.f.classes ⟨bk,bn⟩ c n h=r):=⟨_,Lib.hid rfl⟩;rw [hr.out];replace hw:=Lib.hid hw;have HV:=Lib.hid hv;clear hv;have HS:=Lib.hid S;have hcb:=S.cbw;have hcb1:P.cb < w.heap.size+1:=by omega
 have nf:=S.fo_new (Nat.le_refl _);have c0:w.cell? ⟨P.cb,0,none⟩=some (.pointer (some ⟨E.hb,0,none⟩)):=S.c0;have c9:w.cell? ⟨P.cb,9,none⟩=some (.slice (some ⟨P.lb,0,none⟩) rg.length rg.length):=S.c9;have hfl:=fieldN;clear S
 go_enter Tryz.func151,Tryz.ntmps151
 go_wp2_with fail
 refine Drawn.hd (fun w'=>w'.cell? ⟨P.cb,0,none⟩=some (.pointer (some ⟨E.hb,0,none⟩))∧w'.cell? ⟨P.cb,9,none⟩=some (.slice (some ⟨P.lb,0,none⟩) rg.length rg.length)∧w'.cell? ⟨w.heap.size,1,none⟩=some (.int .i64 ka)∧w'.cell? ⟨w.heap.size,2,none⟩=some (.int .i64 kb)∧w'.cell? ⟨w.heap.size,3,none⟩=some (.int .i64 c)∧w'.cell? ⟨w.heap.size,4,none⟩=some (.int .i64 n)) (h:=fun hHeld=>?_);refine dT 0 150 ?_;refine dT 1 151 ?_;refine dT 2 152 ?_;refine dT 3 153 ?_;refine dT 4 154 ?_;refine dT 5 155 ?_;refine dT 6 156 ?_;refine dT 7 157 ?_;refine dT 8 158 ?_;refine dT 9 159 ?_;refine dT 10 160 ?_;refine dT 11 161 ?_;refine dT 12 162 ?_;refine dT 14 164 ?_;refine dT 15 165 ?_;refine dT 16 166 ?_;refine dT 17 167 ?_;refine Drawn.cl 13 (fun K hK=>?_);go_simp;refine (readR (HS.out.below (by exact Rd.byB)) kb hb' h1000 ⟨bk,bn⟩ hxb.out 3).mono ?_
 rintro e w18 ⟨⟨qb,rfl⟩ | ⟨qb,rfl⟩,hb⟩
 ·simp only at qb;have rb:=Lib.hid qb;clear qb;have kk:∀ (b o:Nat) (u:Value),World.cell? _ ⟨b,o,none⟩=some u→w18.cell? ⟨b,o,none⟩=some u:=fun b o u hc=>kept hb (cell_lt hc) hc;have yw18_0:=kk (P.cb) (0) (.pointer (some ⟨E.hb,0,none⟩)) (by go_simp)
  have yw18_1:=kk (P.cb) (9) (.slice (some ⟨P.lb,0,none⟩) rg.length rg.length) (by go_simp)
  have yw18_2:=kk (w.heap.size) (1) (.int .i64 ka) (by go_simp)
  have yw18_3:=kk (w.heap.size) (2) (.int .i64 kb) (by go_simp)
  have yw18_4:=kk (w.heap.size) (3) (.int .i64 c) (by go_simp)
  have yw18_5:=kk (w.heap.size) (4) (.int .i64 n) (by go_simp)
  clear kk;have Hw18:=Lib.hid (show Below w.heap.size w w18 from Below.trans (by exact Rd.byB) (hb.mono Rd.byL))
  clear hb
  go_wp2_with fail
  refine Drawn.bk hK (hS:=by (try dsimp only);exact ⟨yw18_0,yw18_1,yw18_2,yw18_3,yw18_4,yw18_5⟩) (h:=fun hHeld=>?_)
  clear hK K;refine Drawn.cl 18 (fun K hK=>?_);go_simp;refine (getP (HS.out.below Hw18.out).H hm ⟨bk,bn⟩ c n HV.out).mono ?_;rw [hr.out];rintro e w19 hR
  cases r with
  | thrown o h2 =>
   obtain ⟨rfl,A⟩:=hR;obtain ⟨L5,G5,S5⟩:=Gr.of_heap A (HS.out.below Hw18.out);unfold pan;refine And.intro rfl ?_;unfold rkind;rw [if_pos rb.out];exact plr_thrown ((Gr.of_below Hw18.out).trans G5) S5
  | stop c2 h2 =>
   obtain ⟨rfl,A⟩:=hR;obtain ⟨L5,G5,S5⟩:=Gr.of_heap A (HS.out.below Hw18.out);unfold pan;refine And.intro rfl ?_;unfold rkind;rw [if_pos rb.out];exact plr_stop ((Gr.of_below Hw18.out).trans G5) S5
  | ok x h2 =>
   obtain ⟨xk,xn⟩:=x;obtain ⟨rfl,A⟩:=hR;unfold vval;obtain ⟨L5,G5,S5⟩:=Gr.of_heap A (HS.out.below Hw18.out);have z0:w19.cell? ⟨P.cb,0,none⟩=some (.pointer (some ⟨E.hb,0,none⟩)):=S5.c0;have z1:w19.cell? ⟨P.cb,9,none⟩=some (.slice (some ⟨P.lb,0,none⟩) rg.length rg.length):=S5.c9;have z2:=G5.cell (b:=w.heap.size) (o:=1) (v:=.int .i64 ka) nf (by go_simp)
   have z3:=G5.cell (b:=w.heap.size) (o:=2) (v:=.int .i64 kb) nf (by go_simp)
   have z4:=G5.cell (b:=w.heap.size) (o:=3) (v:=.int .i64 c) nf (by go_simp)
   have z5:=G5.cell (b:=w.heap.size) (o:=4) (v:=.int .i64 n) nf (by go_simp)
   have nf5:=G5.nf (by have:=cell_lt yw18_2;first | exact this | (simp;omega)) nf
   have GB:=Lib.hid ((Gr.of_below Hw18.out).trans G5);replace S5:=Lib.hid S5;clear A G5
   go_wp2_with fail
   refine Drawn.bk hK (hS:=by (try dsimp only);exact ⟨z0,z1,z2,z3,z4,z5⟩) (h:=fun hHeld=>?_)
   clear hK K;refine Drawn.cl 19 (fun K hK=>?_);go_simp;refine (storeR S5.out hP ka ⟨xk,xn⟩ (hw.out _ _ hr.out) h1000).mono ?_;rintro e w20 ⟨rfl,A⟩;obtain ⟨L70,v70,G70,S70⟩:=A.opn;have u0:w20.cell? ⟨P.cb,0,none⟩=some (.pointer (some ⟨E.hb,0,none⟩)):=S70.c0;obtain ⟨L71,v71,G71,S71⟩:=A.opn;have u1:w20.cell? ⟨P.cb,9,none⟩=some (.slice (some ⟨P.lb,0,none⟩) rg.length rg.length):=by have:=S71.c9;rw [Run.store_len] at this;exact this
   have u2:=A.box (b:=w.heap.size) (o:=1) (v:=.int .i64 ka) (by go_simp) nf5
   have u3:=A.box (b:=w.heap.size) (o:=2) (v:=.int .i64 kb) (by go_simp) nf5
   have u4:=A.box (b:=w.heap.size) (o:=3) (v:=.int .i64 c) (by go_simp) nf5
   have u5:=A.box (b:=w.heap.size) (o:=4) (v:=.int .i64 n) (by go_simp) nf5
   go_wp2_with fail
   refine Drawn.bk hK (hS:=by (try dsimp only);exact ⟨u0,u1,u2,u3,u4,u5⟩) (h:=fun hHeld=>?_)
   clear hK K;refine dN ?_
   go_wp2
   go_end0
   exact plr_goE (by unfold rkind;rw [if_pos rb.out];rfl) GB.out A
 ·have Hw18:=Lib.hid (show Below w.heap.size w w18 from Below.trans (by exact Rd.byB) (hb.mono Rd.byL))
  unfold pan;refine And.intro rfl ?_;exact plr_stuckE (by simp [rkind,qb,oA]) (Gr.of_below Hw18.out) (HS.out.below Hw18.out)
set_option maxRecDepth 100000 in
theorem pl17 (S:ST E w L P m d h ⟨rg,ap,Vl.nil,Vl.nil⟩ vs) (hP:Paired rg) (h1000:rg.length≤1000) (a b c n:Int) (args:List Int) (sa:Option Addr) (sn sc:Nat) (hm:Hier.may E.f.classes=true) (ha0:0≤a) (hb0:0≤b) (hb':b.toNat < rg.length) (hv:(rd ⟨rg,ap,Vl.nil,Vl.nil⟩ b).kind=3→(rd ⟨rg,ap,Vl.nil,Vl.nil⟩ b).n < h.objs.length) (hw:∀ v h',Run.isV E.f.classes (rd ⟨rg,ap,Vl.nil,Vl.nil⟩ b) c h=.ok v h'→a.toNat+width v≤rg.length) :
  Calls Tryz.prog 151 #[.pointer (some ⟨P.cb,0,none⟩),.agg #[.int .i64 17,.int .i64 a,.int .i64 b,.int .i64 c,.int .i64 n,.slice sa sn sc]] w (PlR E L P m d vs ⟨rg,ap,Vl.nil,Vl.nil⟩ (.tuple #[]) w (oA (rstep E.f E.input m ⟨17,a,b,c,n,args⟩ ⟨rg,ap,Vl.nil,Vl.nil⟩ h))):=by
 obtain ⟨ka,rfl⟩:∃ k:Nat,a=(k:Int):=⟨a.toNat,by omega⟩
 obtain ⟨kb,rfl⟩:∃ k:Nat,b=(k:Int):=⟨b.toNat,by omega⟩
 obtain ⟨⟨bk,bn⟩,hxb⟩:∃ x,Hid (rg.getD kb Vl.nil=x):=⟨_,Lib.hid rfl⟩;have hrb:rd ⟨rg,ap,Vl.nil,Vl.nil⟩ (kb:Int)=⟨bk,bn⟩:=by unfold rd;rw [Int.toNat_natCast];exact hxb.out
 rw [rt17];rw [hrb] at hv hw ⊢;simp only [Int.toNat_natCast] at hw hb';obtain ⟨r,hr⟩:∃ r,Hid (Run.isV E.f.classes ⟨bk,bn⟩ c h=r):=⟨_,Lib.hid rfl⟩;rw [hr.out];replace hw:=Lib.hid hw;have HV:=Lib.hid hv;clear hv;have HS:=Lib.hid S;have hcb:=S.cbw;have hcb1:P.cb < w.heap.size+1:=by omega
 have nf:=S.fo_new (Nat.le_refl _);have c0:w.cell? ⟨P.cb,0,none⟩=some (.pointer (some ⟨E.hb,0,none⟩)):=S.c0;have c9:w.cell? ⟨P.cb,9,none⟩=some (.slice (some ⟨P.lb,0,none⟩) rg.length rg.length):=S.c9;have hfl:=fieldN;clear S
 go_enter Tryz.func151,Tryz.ntmps151
 go_wp2_with fail
 refine Drawn.hd (fun w'=>w'.cell? ⟨P.cb,0,none⟩=some (.pointer (some ⟨E.hb,0,none⟩))∧w'.cell? ⟨P.cb,9,none⟩=some (.slice (some ⟨P.lb,0,none⟩) rg.length rg.length)∧w'.cell? ⟨w.heap.size,1,none⟩=some (.int .i64 ka)∧w'.cell? ⟨w.heap.size,2,none⟩=some (.int .i64 kb)∧w'.cell? ⟨w.heap.size,3,none⟩=some (.int .i64 c)) (h:=fun hHeld=>?_);refine dT 0 223 ?_;refine dT 1 224 ?_;refine dT 2 225 ?_;refine dT 3 226 ?_;refine dT 4 227 ?_;refine dT 5 228 ?_;refine dT 6 229 ?_;refine dT 7 230 ?_;refine dT 8 231 ?_;refine dT 9 232 ?_;refine dT 10 233 ?_;refine dT 11 234 ?_;refine dT 12 235 ?_;refine dT 14 237 ?_;refine dT 15 238 ?_;refine Drawn.cl 13 (fun K hK=>?_);go_simp;refine (readR (HS.out.below (by exact Rd.byB)) kb hb' h1000 ⟨bk,bn⟩ hxb.out 3).mono ?_
 rintro e w21 ⟨⟨qb,rfl⟩ | ⟨qb,rfl⟩,hb⟩
 ·simp only at qb;have rb:=Lib.hid qb;clear qb;have kk:∀ (b o:Nat) (u:Value),World.cell? _ ⟨b,o,none⟩=some u→w21.cell? ⟨b,o,none⟩=some u:=fun b o u hc=>kept hb (cell_lt hc) hc;have yw21_0:=kk (P.cb) (0) (.pointer (some ⟨E.hb,0,none⟩)) (by go_simp)
  have yw21_1:=kk (P.cb) (9) (.slice (some ⟨P.lb,0,none⟩) rg.length rg.length) (by go_simp)
  have yw21_2:=kk (w.heap.size) (1) (.int .i64 ka) (by go_simp)
  have yw21_3:=kk (w.heap.size) (2) (.int .i64 kb) (by go_simp)
  have yw21_4:=kk (w.heap.size) (3) (.int .i64 c) (by go_simp)
  clear kk;have Hw21:=Lib.hid (show Below w.heap.size w w21 from Below.trans (by exact Rd.byB) (hb.mono Rd.byL))
  clear hb
  go_wp2_with fail
  refine Drawn.bk hK (hS:=by (try dsimp only);exact ⟨yw21_0,yw21_1,yw21_2,yw21_3,yw21_4⟩) (h:=fun hHeld=>?_)
  clear hK K;refine Drawn.cl 16 (fun K hK=>?_);go_simp;refine (isP (HS.out.below Hw21.out).H hm ⟨bk,bn⟩ c HV.out).mono ?_;rw [hr.out];rintro e w22 hR
  cases r with
  | thrown o h2 =>
   obtain ⟨rfl,A⟩:=hR;obtain ⟨L5,G5,S5⟩:=Gr.of_heap A (HS.out.below Hw21.out);unfold pan;refine And.intro rfl ?_;unfold rkind;rw [if_pos rb.out];exact plr_thrown ((Gr.of_below Hw21.out).trans G5) S5
  | stop c2 h2 =>
   obtain ⟨rfl,A⟩:=hR;obtain ⟨L5,G5,S5⟩:=Gr.of_heap A (HS.out.below Hw21.out);unfold pan;refine And.intro rfl ?_;unfold rkind;rw [if_pos rb.out];exact plr_stop ((Gr.of_below Hw21.out).trans G5) S5
  | ok x h2 =>
   obtain ⟨xk,xn⟩:=x;obtain ⟨rfl,A⟩:=hR;unfold vval;obtain ⟨L5,G5,S5⟩:=Gr.of_heap A (HS.out.below Hw21.out);have z0:w22.cell? ⟨P.cb,0,none⟩=some (.pointer (some ⟨E.hb,0,none⟩)):=S5.c0;have z1:w22.cell? ⟨P.cb,9,none⟩=some (.slice (some ⟨P.lb,0,none⟩) rg.length rg.length):=S5.c9;have z2:=G5.cell (b:=w.heap.size) (o:=1) (v:=.int .i64 ka) nf (by go_simp)
   have z3:=G5.cell (b:=w.heap.size) (o:=2) (v:=.int .i64 kb) nf (by go_simp)
   have z4:=G5.cell (b:=w.heap.size) (o:=3) (v:=.int .i64 c) nf (by go_simp)
   have nf5:=G5.nf (by have:=cell_lt yw21_2;first | exact this | (simp;omega)) nf
   have GB:=Lib.hid ((Gr.of_below Hw21.out).trans G5);replace S5:=Lib.hid S5;clear A G5
   go_wp2_with fail
   refine Drawn.bk hK (hS:=by (try dsimp only);exact ⟨z0,z1,z2,z3,z4⟩) (h:=fun hHeld=>?_)
   clear hK K;refine Drawn.cl 17 (fun K hK=>?_);go_simp;refine (storeR S5.out hP ka ⟨xk,xn⟩ (hw.out _ _ hr.out) h1000).mono ?_;rintro e w23 ⟨rfl,A⟩;obtain ⟨L70,v70,G70,S70⟩:=A.opn;have u0:w23.cell? ⟨P.cb,0,none⟩=some (.pointer (some ⟨E.hb,0,none⟩)):=S70.c0;obtain ⟨L71,v71,G71,S71⟩:=A.opn;have u1:w23.cell? ⟨P.cb,9,none⟩=some (.slice (some ⟨P.lb,0,none⟩) rg.length rg.length):=by have:=S71.c9;rw [Run.store_len] at this;exact this
   have u2:=A.box (b:=w.heap.size) (o:=1) (v:=.int .i64 ka) (by go_simp) nf5
   have u3:=A.box (b:=w.heap.size) (o:=2) (v:=.int .i64 kb) (by go_simp) nf5
   have u4:=A.box (b:=w.heap.size) (o:=3) (v:=.int .i64 c) (by go_simp) nf5
   go_wp2_with fail
   refine Drawn.bk hK (hS:=by (try dsimp only);exact ⟨u0,u1,u2,u3,u4⟩) (h:=fun hHeld=>?_)
   clear hK K;refine dN ?_
   go_wp2
   go_end0
   exact plr_goE (by unfold rkind;rw [if_pos rb.out];rfl) GB.out A
 ·have Hw21:=Lib.hid (show Below w.heap.size w w21 from Below.trans (by exact Rd.byB) (hb.mono Rd.byL))
  unfold pan;refine And.intro rfl ?_;exact plr_stuckE (by simp [rkind,qb,oA]) (Gr.of_below Hw21.out) (HS.out.below Hw21.out)
end
end Hpr
namespace Hpr
open Num Rd D Run Mem HierW Hpw
section
variable {E:Ev}{w w' w1 w2:World}{L L' L1:Lay}{h h' h1 h2:Hp}{d:Nat}{P:PS}{m:Me}{vs vs1:Value}{rg:List Vl}{ap:Nat}
set_option maxRecDepth 100000 in
theorem pl16 (S:ST E w L P m d h ⟨rg,ap,Vl.nil,Vl.nil⟩ vs) (hP:Paired rg) (h1000:rg.length≤1000) (a b c n:Int) (args:List Int) (sa:Option Addr) (sn sc:Nat) (hm:Hier.may E.f.classes=true) (ha0:0≤a) (ha':a.toNat < rg.length) (hv:(rd ⟨rg,ap,Vl.nil,Vl.nil⟩ a).kind=3→(rd ⟨rg,ap,Vl.nil,Vl.nil⟩ a).n < h.objs.length)  :
  Calls Tryz.prog 151 #[.pointer (some ⟨P.cb,0,none⟩),.agg #[.int .i64 16,.int .i64 a,.int .i64 b,.int .i64 c,.int .i64 n,.slice sa sn sc]] w (PlR E L P m d vs ⟨rg,ap,Vl.nil,Vl.nil⟩ (.tuple #[]) w (oA (rstep E.f E.input m ⟨16,a,b,c,n,args⟩ ⟨rg,ap,Vl.nil,Vl.nil⟩ h))):=by
 obtain ⟨ka,rfl⟩:∃ k:Nat,a=(k:Int):=⟨a.toNat,by omega⟩
 obtain ⟨⟨ak,an⟩,hxa⟩:∃ x,Hid (rg.getD ka Vl.nil=x):=⟨_,Lib.hid rfl⟩;have hra:rd ⟨rg,ap,Vl.nil,Vl.nil⟩ (ka:Int)=⟨ak,an⟩:=by unfold rd;rw [Int.toNat_natCast];exact hxa.out
 rw [rt16];rw [hra] at hv ⊢;simp only [Int.toNat_natCast] at ha';obtain ⟨r,hr⟩:∃ r,Hid (Run.cast E.f.classes ⟨ak,an⟩ b h=r):=⟨_,Lib.hid rfl⟩;rw [hr.out];have HV:=Lib.hid hv;clear hv;have HS:=Lib.hid S;have hcb:=S.cbw;have hcb1:P.cb < w.heap.size+1:=by omega
 have nf:=S.fo_new (Nat.le_refl _);have c0:w.cell? ⟨P.cb,0,none⟩=some (.pointer (some ⟨E.hb,0,none⟩)):=S.c0;have c9:w.cell? ⟨P.cb,9,none⟩=some (.slice (some ⟨P.lb,0,none⟩) rg.length rg.length):=S.c9;have hfl:=fieldN;clear S
 go_enter Tryz.func151,Tryz.ntmps151
 go_wp2_with fail
 refine Drawn.hd (fun w'=>w'.cell? ⟨P.cb,0,none⟩=some (.pointer (some ⟨E.hb,0,none⟩))∧w'.cell? ⟨w.heap.size,1,none⟩=some (.int .i64 ka)∧w'.cell? ⟨w.heap.size,2,none⟩=some (.int .i64 b)) (h:=fun hHeld=>?_);refine dT 0 210 ?_;refine dT 1 211 ?_;refine dT 2 212 ?_;refine dT 3 213 ?_;refine dT 4 214 ?_;refine dT 5 215 ?_;refine dT 6 216 ?_;refine dT 8 218 ?_;refine dT 9 219 ?_;refine Drawn.cl 7 (fun K hK=>?_);go_simp;refine (readR (HS.out.below (by exact Rd.byB)) ka ha' h1000 ⟨ak,an⟩ hxa.out 3).mono ?_
 rintro e w24 ⟨⟨qa,rfl⟩ | ⟨qa,rfl⟩,hb⟩
 ·simp only at qa;have ra:=Lib.hid qa;clear qa;have kk:∀ (b o:Nat) (u:Value),World.cell? _ ⟨b,o,none⟩=some u→w24.cell? ⟨b,o,none⟩=some u:=fun b o u hc=>kept hb (cell_lt hc) hc;have yw24_0:=kk (P.cb) (0) (.pointer (some ⟨E.hb,0,none⟩)) (by go_simp)
  have yw24_1:=kk (w.heap.size) (1) (.int .i64 ka) (by go_simp)
  have yw24_2:=kk (w.heap.size) (2) (.int .i64 b) (by go_simp)
  clear kk;have Hw24:=Lib.hid (show Below w.heap.size w w24 from Below.trans (by exact Rd.byB) (hb.mono Rd.byL))
  clear hb
  go_wp2_with fail
  refine Drawn.bk hK (hS:=by (try dsimp only);exact ⟨yw24_0,yw24_1,yw24_2⟩) (h:=fun hHeld=>?_)
  clear hK K;refine Drawn.cl 10 (fun K hK=>?_);go_simp;refine (castP (HS.out.below Hw24.out).H hm ⟨ak,an⟩ b HV.out).mono ?_;rw [hr.out];rintro e w25 hR
  cases r with
  | thrown o h2 =>
   obtain ⟨rfl,A⟩:=hR;obtain ⟨L5,G5,S5⟩:=Gr.of_heap A (HS.out.below Hw24.out);unfold pan;refine And.intro rfl ?_;unfold rkind;rw [if_pos ra.out];exact plr_thrown ((Gr.of_below Hw24.out).trans G5) S5
  | stop c2 h2 =>
   obtain ⟨rfl,A⟩:=hR;obtain ⟨L5,G5,S5⟩:=Gr.of_heap A (HS.out.below Hw24.out);unfold pan;refine And.intro rfl ?_;unfold rkind;rw [if_pos ra.out];exact plr_stop ((Gr.of_below Hw24.out).trans G5) S5
  | ok x h2 =>
   obtain ⟨rfl,A⟩:=hR;unfold unitV;obtain ⟨L5,G5,S5⟩:=Gr.of_heap A (HS.out.below Hw24.out);have z0:w25.cell? ⟨P.cb,0,none⟩=some (.pointer (some ⟨E.hb,0,none⟩)):=S5.c0;have z1:=G5.cell (b:=w.heap.size) (o:=1) (v:=.int .i64 ka) nf (by go_simp)
   have z2:=G5.cell (b:=w.heap.size) (o:=2) (v:=.int .i64 b) nf (by go_simp)
   have nf5:=G5.nf (by have:=cell_lt yw24_1;first | exact this | (simp;omega)) nf
   have GB:=Lib.hid ((Gr.of_below Hw24.out).trans G5);replace S5:=Lib.hid S5;clear A G5
   go_wp2_with fail
   refine Drawn.bk hK (hS:=by (try dsimp only);exact ⟨z0,z1,z2⟩) (h:=fun hHeld=>?_)
   clear hK K;refine dN ?_
   go_wp2
   go_end0
   unfold rkind;rw [if_pos ra.out];exact plr_go GB.out S5.out
 ·have Hw24:=Lib.hid (show Below w.heap.size w w24 from Below.trans (by exact Rd.byB) (hb.mono Rd.byL))
  unfold pan;refine And.intro rfl ?_;exact plr_stuckE (by simp [rkind,qa,oA]) (Gr.of_below Hw24.out) (HS.out.below Hw24.out)
set_option maxRecDepth 100000 in
theorem pl23 (S:ST E w L P m d h ⟨rg,ap,Vl.nil,Vl.nil⟩ vs) (hP:Paired rg) (h1000:rg.length≤1000) (a b c n:Int) (args:List Int) (sa:Option Addr) (sn sc:Nat) (hlen:h.out.length≤60000) (ha0:0≤a) (ha':a.toNat < rg.length) :
  Calls Tryz.prog 151 #[.pointer (some ⟨P.cb,0,none⟩),.agg #[.int .i64 23,.int .i64 a,.int .i64 b,.int .i64 c,.int .i64 n,.slice sa sn sc]] w (PlR E L P m d vs ⟨rg,ap,Vl.nil,Vl.nil⟩ (.tuple #[]) w (oA (rstep E.f E.input m ⟨23,a,b,c,n,args⟩ ⟨rg,ap,Vl.nil,Vl.nil⟩ h))):=by
 obtain ⟨ka,rfl⟩:∃ k:Nat,a=(k:Int):=⟨a.toNat,by omega⟩
 obtain ⟨⟨ak,an⟩,hxa⟩:∃ x,Hid (rg.getD ka Vl.nil=x):=⟨_,Lib.hid rfl⟩;have hra:rd ⟨rg,ap,Vl.nil,Vl.nil⟩ (ka:Int)=⟨ak,an⟩:=by unfold rd;rw [Int.toNat_natCast];exact hxa.out
 rw [rt23];rw [hra];simp only [Int.toNat_natCast] at ha';obtain ⟨r,hr⟩:∃ r,Hid (Run.emit ⟨ak,an⟩ b h=r):=⟨_,Lib.hid rfl⟩;rw [hr.out];have HS:=Lib.hid S;have hcb:=S.cbw;have hcb1:P.cb < w.heap.size+1:=by omega
 have nf:=S.fo_new (Nat.le_refl _);have c0:w.cell? ⟨P.cb,0,none⟩=some (.pointer (some ⟨E.hb,0,none⟩)):=S.c0;have c9:w.cell? ⟨P.cb,9,none⟩=some (.slice (some ⟨P.lb,0,none⟩) rg.length rg.length):=S.c9;have hfl:=fieldN;clear S
 go_enter Tryz.func151,Tryz.ntmps151
 go_wp2_with fail
 refine Drawn.hd (fun w'=>w'.cell? ⟨P.cb,0,none⟩=some (.pointer (some ⟨E.hb,0,none⟩))∧w'.cell? ⟨w.heap.size,1,none⟩=some (.int .i64 ka)∧w'.cell? ⟨w.heap.size,2,none⟩=some (.int .i64 b)) (h:=fun hHeld=>?_);refine dT 0 243 ?_;refine dT 1 244 ?_;refine dT 2 245 ?_;refine dT 3 246 ?_;refine dT 4 247 ?_;refine dT 5 248 ?_;refine dT 6 249 ?_;refine dT 7 250 ?_;refine dT 8 251 ?_;refine dT 10 253 ?_;refine dT 11 254 ?_;refine Drawn.cl 9 (fun K hK=>?_);go_simp;refine (readR (HS.out.below (by exact Rd.byB)) ka ha' h1000 ⟨ak,an⟩ hxa.out b).mono ?_
 rintro e w26 ⟨⟨qa,rfl⟩ | ⟨qa,rfl⟩,hb⟩
 ·simp only at qa;have ra:=Lib.hid qa;clear qa;have kk:∀ (b o:Nat) (u:Value),World.cell? _ ⟨b,o,none⟩=some u→w26.cell? ⟨b,o,none⟩=some u:=fun b o u hc=>kept hb (cell_lt hc) hc;have yw26_0:=kk (P.cb) (0) (.pointer (some ⟨E.hb,0,none⟩)) (by go_simp)
  have yw26_1:=kk (w.heap.size) (1) (.int .i64 ka) (by go_simp)
  have yw26_2:=kk (w.heap.size) (2) (.int .i64 b) (by go_simp)
  clear kk;have Hw26:=Lib.hid (show Below w.heap.size w w26 from Below.trans (by exact Rd.byB) (hb.mono Rd.byL))
  clear hb
  go_wp2_with fail
  refine Drawn.bk hK (hS:=by (try dsimp only);exact ⟨yw26_0,yw26_1,yw26_2⟩) (h:=fun hHeld=>?_)
  clear hK K;refine Drawn.cl 12 (fun K hK=>?_);go_simp;refine (emitP (HS.out.below Hw26.out).H ⟨ak,an⟩ b hlen).mono ?_;rw [hr.out];rintro e w27 hR
  cases r with
  | thrown o h2 =>
   obtain ⟨rfl,A⟩:=hR;obtain ⟨L5,G5,S5⟩:=Gr.of_heap A (HS.out.below Hw26.out);unfold pan;refine And.intro rfl ?_;unfold rkind;rw [if_pos ra.out];exact plr_thrown ((Gr.of_below Hw26.out).trans G5) S5
  | stop c2 h2 =>
   obtain ⟨rfl,A⟩:=hR;obtain ⟨L5,G5,S5⟩:=Gr.of_heap A (HS.out.below Hw26.out);unfold pan;refine And.intro rfl ?_;unfold rkind;rw [if_pos ra.out];exact plr_stop ((Gr.of_below Hw26.out).trans G5) S5
  | ok x h2 =>
   obtain ⟨rfl,A⟩:=hR;obtain ⟨L5,G5,S5⟩:=Gr.of_heap A (HS.out.below Hw26.out);have z0:w27.cell? ⟨P.cb,0,none⟩=some (.pointer (some ⟨E.hb,0,none⟩)):=S5.c0;have z1:=G5.cell (b:=w.heap.size) (o:=1) (v:=.int .i64 ka) nf (by go_simp)
   have z2:=G5.cell (b:=w.heap.size) (o:=2) (v:=.int .i64 b) nf (by go_simp)
   have nf5:=G5.nf (by have:=cell_lt yw26_1;first | exact this | (simp;omega)) nf
   have GB:=Lib.hid ((Gr.of_below Hw26.out).trans G5);replace S5:=Lib.hid S5;clear A G5
   go_wp2_with fail
   refine Drawn.bk hK (hS:=by (try dsimp only);exact ⟨z0,z1,z2⟩) (h:=fun hHeld=>?_)
   clear hK K;refine dN ?_
   go_wp2
   go_end0
   unfold rkind;rw [if_pos ra.out];exact plr_go GB.out S5.out
 ·have Hw26:=Lib.hid (show Below w.heap.size w w26 from Below.trans (by exact Rd.byB) (hb.mono Rd.byL))
  unfold pan;refine And.intro rfl ?_;exact plr_stuckE (by simp [rkind,qa,oA]) (Gr.of_below Hw26.out) (HS.out.below Hw26.out)
end
end Hpr
namespace Hpr
open Num Rd D Run Mem HierW Hpw
section
variable {E:Ev}{w w' w1 w2:World}{L L' L1:Lay}{h h' h1 h2:Hp}{d:Nat}{P:PS}{m:Me}{vs vs1:Value}{rg:List Vl}{ap:Nat}
set_option maxRecDepth 100000 in
theorem pl15 (S:ST E w L P m d h ⟨rg,ap,Vl.nil,Vl.nil⟩ vs) (hP:Paired rg) (h1000:rg.length≤1000) (a b c n:Int) (args:List Int) (sa:Option Addr) (sn sc:Nat) (hm:Hier.may E.f.classes=true) (HO:HpOk E.f.classes E.input E.fuel h) (ha0:0≤a) (ha':a.toNat < rg.length) (hb0:0≤b) (hb':b.toNat < rg.length) (hc0:0≤c) (hc1:c < E.f.classes.length) (hn0:0≤n) (hn1:n < ((Hier.at' E.f.classes c.toNat).fields.length:Int)) (hvb:VlOk h.objs.length (rd ⟨rg,ap,Vl.nil,Vl.nil⟩ b)) (hva:VlOk h.objs.length (rd ⟨rg,ap,Vl.nil,Vl.nil⟩ a)) :
  Calls Tryz.prog 151 #[.pointer (some ⟨P.cb,0,none⟩),.agg #[.int .i64 15,.int .i64 a,.int .i64 b,.int .i64 c,.int .i64 n,.slice sa sn sc]] w (PlR E L P m d vs ⟨rg,ap,Vl.nil,Vl.nil⟩ (.tuple #[]) w (oA (rstep E.f E.input m ⟨15,a,b,c,n,args⟩ ⟨rg,ap,Vl.nil,Vl.nil⟩ h))):=by
 obtain ⟨ka,rfl⟩:∃ k:Nat,a=(k:Int):=⟨a.toNat,by omega⟩
 obtain ⟨kb,rfl⟩:∃ k:Nat,b=(k:Int):=⟨b.toNat,by omega⟩
 obtain ⟨kc,rfl⟩:∃ k:Nat,c=(k:Int):=⟨c.toNat,by omega⟩
 obtain ⟨kn,rfl⟩:∃ k:Nat,n=(k:Int):=⟨n.toNat,by omega⟩
 obtain ⟨⟨ak,an⟩,hxa⟩:∃ x,Hid (rg.getD ka Vl.nil=x):=⟨_,Lib.hid rfl⟩;have hra:rd ⟨rg,ap,Vl.nil,Vl.nil⟩ (ka:Int)=⟨ak,an⟩:=by unfold rd;rw [Int.toNat_natCast];exact hxa.out
 obtain ⟨⟨bk,bn⟩,hxb⟩:∃ x,Hid (rg.getD kb Vl.nil=x):=⟨_,Lib.hid rfl⟩;have hrb:rd ⟨rg,ap,Vl.nil,Vl.nil⟩ (kb:Int)=⟨bk,bn⟩:=by unfold rd;rw [Int.toNat_natCast];exact hxb.out
 have HS0:=S.H;obtain ⟨ca,ccap,hvc,c1,c2,hel⟩:=id HS0.cls;obtain ⟨cb,co,rfl,hcb',he⟩:=hel kc (by omega)
 obtain ⟨x,hx⟩:=at_of (show kc < E.f.classes.length by omega)
 rw [hx.out] at he;obtain ⟨_,_,fv,e2,hf⟩:=he;have hfx:Hier.at' E.f.classes kc=x:=atOf (by omega) hx.out
 rw [Int.toNat_natCast,hfx] at hn1;obtain ⟨fa,fcap,rfl,c3,c4,hfe⟩:=hf;obtain ⟨fb,fo,rfl,hfb,hfe2⟩:=hfe kn (by omega)
 obtain ⟨t,htt⟩:=at_of (show kn < x.fields.length by omega)
 rw [htt.out] at hfe2;obtain ⟨t1,_,_,_⟩:=hfe2
 have hft:ftype E.f.classes kc kn=t:=by
  unfold ftype;rw [Int.toNat_natCast,Int.toNat_natCast,hfx,List.getD_eq_getElem?_getD,List.getElem?_eq_getElem (show kn < x.fields.length by omega),htt.out];rfl
 obtain ⟨tk,tc⟩:=t;simp only at t1;have h00:=HS0.c0;rw [hvc] at h00;have hhb:=HS0.hbw;have hbs:=S.base;have lcb:cb < w.heap.size:=by omega
 have lfb:fb < w.heap.size:=by omega
 have HPUT:=fun (W:World) (hW:PH E W L h d)=>putP hW hm HO (rd ⟨rg,ap,Vl.nil,Vl.nil⟩ kb) (rd ⟨rg,ap,Vl.nil,Vl.nil⟩ ka) kc kn hvb hva ⟨by omega,by omega⟩ ⟨by omega,by rw [Int.toNat_natCast,hfx];omega⟩
 rw [rt15];rw [hft] at HPUT ⊢;rw [hra,hrb] at HPUT ⊢;simp only [Int.toNat_natCast] at ha' hb';obtain ⟨ncl,hncl⟩:∃ q,q=E.f.classes.length:=⟨_,rfl⟩;obtain ⟨nfl,hnfl⟩:∃ q,q=x.fields.length:=⟨_,rfl⟩;have hci:(kc:Int) < ncl:=by omega
 have hki:(kn:Int) < nfl:=by omega
 rw [← hncl] at h00 hvc;have hvc':=Lib.hid hvc;have ncb:¬ Hpr.fo E L P vs cb:=fun hk=>by have:=(S.fo_lo hk).1;omega
 have nfb:¬ Hpr.fo E L P vs fb:=fun hk=>by have:=(S.fo_lo hk).1;omega
 rw [← hnfl] at e2;obtain ⟨r,hr⟩:∃ r,Hid (Run.put E.f.classes ⟨bk,bn⟩ kc kn ⟨ak,an⟩ ⟨tk,tc⟩ h=r):=⟨_,Lib.hid rfl⟩;rw [hr.out] at HPUT ⊢;replace HPUT:=Lib.hid HPUT;replace HO:=Lib.hid HO;have hft':=Lib.hid hft;clear HS0 hel hfe hva hvb hc1 hn1 hft hfx hncl hnfl htt hx hvc;have HS:=Lib.hid S;have hcb:=S.cbw;have hcb1:P.cb < w.heap.size+1:=by omega
 have nf:=S.fo_new (Nat.le_refl _);have c0:w.cell? ⟨P.cb,0,none⟩=some (.pointer (some ⟨E.hb,0,none⟩)):=S.c0;have c9:w.cell? ⟨P.cb,9,none⟩=some (.slice (some ⟨P.lb,0,none⟩) rg.length rg.length):=S.c9;have hfl:=fieldN;clear S
 go_enter Tryz.func151,Tryz.ntmps151
 go_wp2_with fail
 refine (readR (HS.out.below (by exact Rd.byB)) kb hb' h1000 ⟨bk,bn⟩ hxb.out 3).mono ?_
 rintro e w2 ⟨⟨qb,rfl⟩ | ⟨qb,rfl⟩,hb⟩
 ·simp only at qb;subst qb;have hbw2:Below w.heap.size w w2:=Below.trans (by exact Rd.byB) (hb.mono Rd.byL)
  have i1:w2.cell? ⟨w.heap.size,1,none⟩=some (.int .i64 ka):=kept hb Rd.byL (by go_simp)
  have i3:w2.cell? ⟨w.heap.size,3,none⟩=some (.int .i64 kc):=kept hb Rd.byL (by go_simp)
  have i4:w2.cell? ⟨w.heap.size,4,none⟩=some (.int .i64 kn):=kept hb Rd.byL (by go_simp)
  have j0:=kept hbw2 hcb c0;have j1:=kept hbw2 hhb h00;have j2:=kept hbw2 lcb e2;have j3:=kept hbw2 lfb t1;have hs2:w.heap.size < w2.heap.size:=cell_lt i1;have hsle:w.heap.size≤w2.heap.size:=by omega
  have g1:=cell_lt j0;have g2:=cell_lt j1;have g3:=cell_lt j2;have g4:=cell_lt j3;have nbx:¬ Hpr.fo E L P vs w2.heap.size:=HS.out.fo_new hsle;clear hb c0 c9 h00 e2 t1
  go_wp2_with fail
  refine Drawn.hd (fun w'=>w'.cell? ⟨P.cb,0,none⟩=some (.pointer (some ⟨E.hb,0,none⟩))∧w'.cell? ⟨E.hb,0,none⟩=some (.slice (some ⟨cb,co,none⟩) ncl ccap)∧w'.cell? ⟨cb,co+kc*2+1,none⟩=some (.slice (some ⟨fb,fo,none⟩) nfl fcap)∧w'.cell? ⟨fb,fo+kn*2,none⟩=some (.int .i64 tk)∧w'.cell? ⟨w2.heap.size,0,none⟩=some (.int .i64 3)∧w'.cell? ⟨w2.heap.size,1,none⟩=some (.int .i64 bn)∧w'.cell? ⟨w.heap.size,1,none⟩=some (.int .i64 ka)∧w'.cell? ⟨w.heap.size,3,none⟩=some (.int .i64 kc)∧w'.cell? ⟨w.heap.size,4,none⟩=some (.int .i64 kn)) (h:=fun hHeld=>?_);refine dT 0 176 ?_;refine dT 1 177 ?_;refine dT 2 178 ?_;refine dT 3 179 ?_;refine dT 4 180 ?_;refine dT 5 181 ?_;refine dT 6 182 ?_;refine dT 7 183 ?_;refine dT 8 184 ?_;refine dT 9 185 ?_;refine dT 10 186 ?_;refine dT 11 187 ?_;refine dT 12 188 ?_;refine dT 13 189 ?_;refine dT 14 190 ?_;refine dT 15 191 ?_;refine dT 16 192 ?_;refine dT 17 193 ?_;refine dT 18 194 ?_;refine dT 19 195 ?_;refine dT 20 196 ?_;refine dT 21 197 ?_;refine dT 22 198 ?_;refine dT 23 199 ?_;refine dT 24 200 ?_;refine dT 25 201 ?_;refine dT 26 202 ?_;refine dT 27 203 ?_;refine dT 28 204 ?_;refine dT 29 205 ?_;refine Drawn.cl 30 (fun K hK=>?_);go_simp;refine (readR (HS.out.below (by exact Rd.byB)) ka ha' h1000 ⟨ak,an⟩ hxa.out tk).mono ?_
  rintro e w28 ⟨⟨qa,rfl⟩ | ⟨qa,rfl⟩,hb⟩
  ·simp only at qa;have ra:=Lib.hid qa;clear qa;have kk:∀ (b o:Nat) (u:Value),World.cell? _ ⟨b,o,none⟩=some u→w28.cell? ⟨b,o,none⟩=some u:=fun b o u hc=>kept hb (cell_lt hc) hc;have yw28_0:=kk (P.cb) (0) (.pointer (some ⟨E.hb,0,none⟩)) (by go_simp)
   have yw28_1:=kk (E.hb) (0) (.slice (some ⟨cb,co,none⟩) ncl ccap) (by go_simp)
   have yw28_2:=kk (cb) (co+kc*2+1) (.slice (some ⟨fb,fo,none⟩) nfl fcap) (by go_simp)
   have yw28_3:=kk (fb) (fo+kn*2) (.int .i64 tk) (by go_simp)
   have yw28_4:=kk (w2.heap.size) (0) (.int .i64 3) (by go_simp)
   have yw28_5:=kk (w2.heap.size) (1) (.int .i64 bn) (by go_simp)
   have yw28_6:=kk (w.heap.size) (1) (.int .i64 ka) (by go_simp)
   have yw28_7:=kk (w.heap.size) (3) (.int .i64 kc) (by go_simp)
   have yw28_8:=kk (w.heap.size) (4) (.int .i64 kn) (by go_simp)
   clear kk;have Hw28:=Lib.hid (show Below w.heap.size w w28 from Below.trans (by exact Rd.byB) (hb.mono Rd.byL))
   clear hb
   go_wp2_with fail
   refine Drawn.bk hK (hS:=by (try dsimp only);exact ⟨yw28_0,yw28_1,yw28_2,yw28_3,yw28_4,yw28_5,yw28_6,yw28_7,yw28_8⟩) (h:=fun hHeld=>?_)
   clear hK K;refine Drawn.cl 31 (fun K hK=>?_);go_simp;refine (HPUT.out _ (HS.out.below Hw28.out).H).mono ?_;rintro e w29 hR
   cases r with
   | thrown o h2 =>
    obtain ⟨rfl,A⟩:=hR;obtain ⟨L5,G5,S5⟩:=Gr.of_heap A (HS.out.below Hw28.out);unfold pan;refine And.intro rfl ?_;unfold rkind;rw [if_pos rfl,if_pos ra.out];exact plr_thrown ((Gr.of_below Hw28.out).trans G5) S5
   | stop c2 h2 =>
    obtain ⟨rfl,A⟩:=hR;obtain ⟨L5,G5,S5⟩:=Gr.of_heap A (HS.out.below Hw28.out);unfold pan;refine And.intro rfl ?_;unfold rkind;rw [if_pos rfl,if_pos ra.out];exact plr_stop ((Gr.of_below Hw28.out).trans G5) S5
   | ok x h2 =>
    obtain ⟨rfl,A⟩:=hR;obtain ⟨L5,G5,S5⟩:=Gr.of_heap A (HS.out.below Hw28.out);have z0:w29.cell? ⟨P.cb,0,none⟩=some (.pointer (some ⟨E.hb,0,none⟩)):=S5.c0;have z1:w29.cell? ⟨E.hb,0,none⟩=some (.slice (some ⟨cb,co,none⟩) ncl ccap):=by have q:=S5.H.c0;rw [hvc'.out] at q;exact q
    have z2:=G5.cell (b:=cb) (o:=co+kc*2+1) (v:=.slice (some ⟨fb,fo,none⟩) nfl fcap) ncb (by go_simp)
    have z3:=G5.cell (b:=fb) (o:=fo+kn*2) (v:=.int .i64 tk) nfb (by go_simp)
    have z4:=G5.cell (b:=w2.heap.size) (o:=0) (v:=.int .i64 3) nbx (by go_simp)
    have z5:=G5.cell (b:=w2.heap.size) (o:=1) (v:=.int .i64 bn) nbx (by go_simp)
    have z6:=G5.cell (b:=w.heap.size) (o:=1) (v:=.int .i64 ka) nf (by go_simp)
    have z7:=G5.cell (b:=w.heap.size) (o:=3) (v:=.int .i64 kc) nf (by go_simp)
    have z8:=G5.cell (b:=w.heap.size) (o:=4) (v:=.int .i64 kn) nf (by go_simp)
    have nf5:=G5.nf (by have:=cell_lt yw28_6;first | exact this | (simp;omega)) nf
    have GB:=Lib.hid ((Gr.of_below Hw28.out).trans G5);replace S5:=Lib.hid S5;clear A G5
    go_wp2_with fail
    refine Drawn.bk hK (hS:=by (try dsimp only);exact ⟨z0,z1,z2,z3,z4,z5,z6,z7,z8⟩) (h:=fun hHeld=>?_)
    clear hK K;refine dN ?_
    go_wp2
    go_end0
    unfold rkind;rw [if_pos rfl,if_pos ra.out];exact plr_go GB.out S5.out
  ·have Hw28:=Lib.hid (show Below w.heap.size w w28 from Below.trans (by exact Rd.byB) (hb.mono Rd.byL))
   unfold pan;refine And.intro rfl ?_;exact plr_stuckE (by simp [rkind,qa,oA]) (Gr.of_below Hw28.out) (HS.out.below Hw28.out)
 ·have HBw2:=Lib.hid (show Below w.heap.size w w2 from Below.trans (by exact Rd.byB) (hb.mono Rd.byL))
  unfold pan;refine And.intro rfl ?_;exact plr_stuckE (by simp [rkind,qb,oA]) (Gr.of_below HBw2.out) (HS.out.below HBw2.out)
end
end Hpr
namespace Hpr
open Num Rd D Run Mem HierW Hpw
theorem reg_w {regs a kind:Int}{n:Nat}{v:Vl}(h:Rform.reg regs a kind=true) (hl:n=regs.toNat) (hk:v.kind=2→kind=2):a.toNat+width v≤n:=by
 obtain ⟨h0,h1,h2⟩:=reg_iff h;unfold width
 split
 ·rename_i q;have:=h2 (hk q);omega
 ·omega
theorem reg_l {regs a kind:Int}{n:Nat}(h:Rform.reg regs a kind=true) (hl:n=regs.toNat):0≤a∧a.toNat < n:=by
 obtain ⟨h0,h1,h2⟩:=reg_iff h;exact ⟨h0,by omega⟩
theorem reckon_kind {l:List Cls}{a b v:Vl}{k op:Int}{h h':Hp}(e:Run.reckon l a b k op h=.ok v h'):v.kind=k:=by
 unfold Run.reckon at e
 split at e
 ·cases e
 ·split at e
  ·unfold Run.raise at e
   cases hn:Run.new l 2 h <;> rw [hn] at e <;> cases e
  ·cases e;rfl
theorem new_kind {l:List Cls}{v:Vl}{cl:Int}{h h':Hp}(e:Run.new l cl h=.ok v h'):v.kind=3:=by
 unfold Run.new at e
 split at e
 ·cases e
 ·cases e;rfl
theorem isV_kind {l:List Cls}{v x:Vl}{cl:Int}{h h':Hp}(e:Run.isV l v cl h=.ok x h'):x.kind=1:=by
 unfold Run.isV at e
 split at e
 ·cases e
 ·cases e;rfl
section
variable {E:Ev}{w w' w1 w2:World}{L L' L1:Lay}{h h' h1 h2:Hp}{d:Nat}{P:PS}{m:Me}{vs vs1:Value}{rg:List Vl}{ap:Nat}
theorem plain (FS:FiR E.f) (MS:MeR E.f m) (S:ST E w L P m d h ⟨rg,ap,Vl.nil,Vl.nil⟩ vs) (HO:HpOk E.f.classes E.input E.fuel h) (hf:RfOk m h.objs.length ⟨rg,ap,Vl.nil,Vl.nil⟩) (hfu:E.fuel≤60000) (hin:E.input.length≤1000) (i:Ins) (hi:Rform.ins E.f m i=true) (hop:i.op≠10∧i.op≠11∧i.op≠12∧i.op≠18∧i.op≠19∧i.op≠20∧i.op≠21∧i.op≠22) (sa:Option Addr) (sn sc:Nat) :
  Calls Tryz.prog 151 #[.pointer (some ⟨P.cb,0,none⟩),.agg #[.int .i64 i.op,.int .i64 i.a,.int .i64 i.b,.int .i64 i.c,.int .i64 i.n,.slice sa sn sc]] w (PlR E L P m d vs ⟨rg,ap,Vl.nil,Vl.nil⟩ (.tuple #[]) w (oA (rstep E.f E.input m i ⟨rg,ap,Vl.nil,Vl.nil⟩ h))):=by
 have hl:rg.length=m.regs.toNat:=hf.len;have hP:Paired rg:=hf.regs.pair;have h1000:rg.length≤1000:=by have:=MS.regs.2.2;omega
 have hm:=FS.may;have rv:∀ a:Int,VlOk h.objs.length (rd ⟨rg,ap,Vl.nil,Vl.nil⟩ a):=fun a=>rd_ok hf a;have r3:∀ a:Int,(rd ⟨rg,ap,Vl.nil,Vl.nil⟩ a).kind=3→(rd ⟨rg,ap,Vl.nil,Vl.nil⟩ a).n < h.objs.length:=fun a e=>((rv a).2.2.2 e).2;simp only [Rform.ins,Bool.and_eq_true] at hi;obtain ⟨⟨_,hb⟩,_⟩:=hi;obtain ⟨op,a,b,c,n,args⟩:=i;simp only at hop hb ⊢
 by_cases q1:op=1
 ·subst q1;simp [Rform.body] at hb;exact pl1 S hP h1000 a b c n args sa sn sc (reg_l hb.1.1 hl).1 (reg_w (v:=⟨1,0⟩) hb.1.1 hl (by simp))
 by_cases q2:op=2
 ·subst q2;simp [Rform.body] at hb;exact pl2 S hP h1000 a b c n args sa sn sc (reg_l hb.1.1 hl).1 (reg_w (v:=⟨2,0⟩) hb.1.1 hl (by simp))
 by_cases q3:op=3
 ·subst q3;simp [Rform.body] at hb;exact pl3 S hP h1000 a b c n args sa sn sc (reg_l hb.1.1 hl).1 (reg_w (v:=⟨3,0⟩) hb.1.1 hl (by simp))
 by_cases q4:op=4
 ·subst q4;simp [Rform.body,rng_iff] at hb;exact pl4 S hP h1000 a b c n args sa sn sc (reg_l hb.2.1 hl).1 (fun e=>reg_w hb.2.1 hl (fun e2=>by rw [← e,e2])) (reg_l hb.2.2 hl).1 (reg_l hb.2.2 hl).2
 by_cases q5:op=5
 ·subst q5;simp [Rform.body] at hb;exact pl5 S hP h1000 a b c n args sa sn sc hm (reg_l hb.1 hl).1 (reg_l hb.2.1 hl).1 (reg_l hb.2.1 hl).2 (reg_l hb.2.2 hl).1 (reg_l hb.2.2 hl).2 (rv b).1 (fun v h' e=>reg_w hb.1 hl (fun e2=>by have:=reckon_kind e;omega))
 by_cases q6:op=6
 ·subst q6;simp [Rform.body] at hb;exact pl6 S hP h1000 a b c n args sa sn sc hm (reg_l hb.1 hl).1 (reg_l hb.2.1 hl).1 (reg_l hb.2.1 hl).2 (reg_l hb.2.2 hl).1 (reg_l hb.2.2 hl).2 (rv b).1 (fun v h' e=>reg_w hb.1 hl (fun e2=>by have:=reckon_kind e;omega))
 by_cases q7:op=7
 ·subst q7;simp [Rform.body] at hb;exact pl7 S hP h1000 a b c n args sa sn sc (reg_l hb.1.1 hl).1 (reg_w (v:=⟨2,0⟩) hb.1.1 hl (by simp)) (reg_l hb.1.2 hl).1 (reg_l hb.1.2 hl).2
 by_cases q8:op=8
 ·subst q8;simp [Rform.body] at hb;exact pl8 S hP h1000 a b c n args sa sn sc (reg_l hb.1.1 hl).1 (reg_w (v:=⟨1,0⟩) hb.1.1 hl (by simp)) (reg_l hb.1.2 hl).1 (reg_l hb.1.2 hl).2
 by_cases q9:op=9
 ·subst q9;simp [Rform.body] at hb;exact pl9 S hP h1000 a b c n args sa sn sc (reg_l hb.1 hl).1 (reg_w (v:=⟨1,0⟩) hb.1 hl (by simp)) (reg_l hb.2.1 hl).1 (reg_l hb.2.1 hl).2 (reg_l hb.2.2 hl).1 (reg_l hb.2.2 hl).2
 by_cases q13:op=13
 ·subst q13;simp [Rform.body,rng_iff] at hb;exact pl13 S hP h1000 a b c n args sa sn sc hm (reg_l hb.1.1 hl).1 (fun v h' e=>reg_w hb.1.1 hl (fun e2=>by have:=new_kind e;omega))
 by_cases q14:op=14
 ·subst q14;simp [Rform.body,rng_iff] at hb;refine pl14 S hP h1000 a b c n args sa sn sc hm (reg_l hb.1.2 hl).1 (reg_l hb.2 hl).1 (reg_l hb.2 hl).2 (r3 b) (fun v h' e=>reg_w hb.1.2 hl (fun e2=>?_));have hg:=get_ok hm HO (rv b) (c:=c) (k:=n) (by omega) (by have:=hb.1.1.2;unfold Form.nf at this;omega)
  rw [e] at hg;rw [← e2,hg.2.2.2.2.2];rfl
 by_cases q15:op=15
 ·subst q15;simp [Rform.body,rng_iff] at hb;exact pl15 S hP h1000 a b c n args sa sn sc hm HO (reg_l hb.1.2 hl).1 (reg_l hb.1.2 hl).2 (reg_l hb.2 hl).1 (reg_l hb.2 hl).2 hb.1.1.1.1 hb.1.1.1.2 hb.1.1.2.1 (by have:=hb.1.1.2.2;unfold Form.nf at this;exact this) (rv b) (rv a)
 by_cases q16:op=16
 ·subst q16;simp [Rform.body,rng_iff] at hb;exact pl16 S hP h1000 a b c n args sa sn sc hm (reg_l hb.1.1 hl).1 (reg_l hb.1.1 hl).2 (r3 a)
 by_cases q17:op=17
 ·subst q17;simp [Rform.body,rng_iff] at hb;exact pl17 S hP h1000 a b c n args sa sn sc hm (reg_l hb.1.1 hl).1 (reg_l hb.1.2 hl).1 (reg_l hb.1.2 hl).2 (r3 b) (fun v h' e=>reg_w hb.1.1 hl (fun e2=>by have:=isV_kind e;omega))
 by_cases q23:op=23
 ·subst q23;simp [Rform.body,rng_iff] at hb;exact pl23 S hP h1000 a b c n args sa sn sc (by have:=HO.outs;have:=HO.steps;omega) (reg_l hb.1.2 hl).1 (reg_l hb.1.2 hl).2
 by_cases q24:op=24
 ·subst q24;simp [Rform.body] at hb;exact pl24 S hP h1000 a b c n args sa sn sc hin (reg_l hb.1.1 hl).1 (fun v h' e=>reg_w hb.1.1 hl (fun e2=>rfl))
 exfalso
 revert hb
 unfold Rform.body;simp only
 repeat rw [if_neg (by omega)]
 simp
end
end Hpr
namespace Hpr
open Num Rd D Run Mem HierW Hpw
def DoR (E:Ev) (L:Lay) (P:PS) (m:Me) (d:Nat) (vs:Value) (fr:Rf) (w:World) (a:Out Rf) (e:Ending) (w':World):Prop:=match a with
 | .go fr' h=>e=.returned (.tuple #[.agg #[.int .i64 0,.int .i64 0],.bool false])∧LftF E L P m d vs w w' h fr'
 | .back v h=>e=.returned (.tuple #[.agg #[.int .i64 v.kind,.int .i64 v.n],.bool true])∧∃ st:Unit,LftF E L P m d vs w w' h (clr fr)
 | .thrown o h=>Pan (thrownV o) e∧∃ st:Unit,LftF E L P m d vs w w' h (clr fr)
 | .stop c h=>Pan (stopV c) e∧LftS E L P d vs w w' h
def CloR (E:Ev) (L:Lay) (P:PS) (m:Me) (d:Nat) (vs:Value) (fr:Rf) (b12 b13:Nat) (w:World) (a:Out Rf) (e:Ending) (w':World):Prop:=match a with
 | .go fr' h=>e=.returned (.tuple #[])∧w'.cell? ⟨b12,0,none⟩=some (.bool false)∧∃ wd,LftF E L P m d vs w wd h fr'∧Kp (fun k=>k=b12∨k=b13) wd w'
 | .back v h=>e=.returned (.tuple #[])∧w'.cell? ⟨b12,0,none⟩=some (.bool true)∧w'.cell? ⟨b13,0,none⟩=some (.int .i64 v.kind)∧w'.cell? ⟨b13,1,none⟩=some (.int .i64 v.n)∧∃ wd,∃ st:Unit,LftF E L P m d vs w wd h (clr fr)∧Kp (fun k=>k=b12∨k=b13) wd w'
 | .thrown o h=>Pan (thrownV o) e∧w'.cell? ⟨b12,0,none⟩=some (.bool false)∧∃ st:Unit,LftF E L P m d vs w w' h (clr fr)
 | .stop c h=>Pan (stopV c) e∧LftS E L P d vs w w' h
def TryR2 (E:Ev) (L:Lay) (P:PS) (m:Me) (d:Nat) (vs:Value) (fr:Rf) (b12 b13:Nat) (w0:World) (a:Out Rf) (e:Ending) (w':World):Prop:=match a with
 | .go fr' h=>e=.returned (.tuple #[.int .i64 0,.bool false])∧w'.cell? ⟨b12,0,none⟩=some (.bool false)∧LftF E L P m d vs w0 w' h fr'
 | .back v h=>e=.returned (.tuple #[.int .i64 0,.bool false])∧w'.cell? ⟨b12,0,none⟩=some (.bool true)∧w'.cell? ⟨b13,0,none⟩=some (.int .i64 v.kind)∧w'.cell? ⟨b13,1,none⟩=some (.int .i64 v.n)∧∃ st:Unit,LftF E L P m d vs w0 w' h (clr fr)
 | .thrown o h=>e=.returned (.tuple #[.int .i64 o,.bool true])∧w'.cell? ⟨b12,0,none⟩=some (.bool false)∧∃ st:Unit,∃ L1 vs1,Gr E L P vs w0 L1 vs1 w'∧ST E w' L1 P m d h (clr fr) vs1∧¬ fo E L1 P vs1 b12
 | .stop c h=>Pan (stopV c) e∧LftS E L P d vs w0 w' h
section
variable {E:Ev}{w w' w0 w1 w2:World}{L L' L1:Lay}{h h' h1 h2:Hp}{d:Nat}{P:PS}{m:Me}{fr fr' fr1:Rf}{vs vs1:Value}
theorem atP (S:ST E w L P m d h fr vs):Calls Tryz.prog 93 #[.pointer (some ⟨P.cb,0,none⟩)] w fun e w'=>e=.returned (.int .i64 fr.at_)∧w=w':=by
 have c10:=S.c10;clear S
 go_enter Tryz.func93,Tryz.ntmps93
 go_wp2
 go_ret;exact ⟨rfl,rfl⟩
theorem catchP (S:ST E w L P m d h fr vs) (a o:Nat):Calls Tryz.prog 94 #[.pointer (some ⟨P.cb,0,none⟩),.int .i64 a,.agg #[.int .i64 3,.int .i64 o]] w fun e w'=>e=.returned (.tuple #[])∧LftF E L P m d vs w w' h ⟨fr.regs,a,fr.given,⟨3,o⟩⟩:=by
 have HS:=Lib.hid S;have hcb:=S.cbw;have hcb1:P.cb < w.heap.size+1:=by omega
 have c10:=S.c10;have c13:=S.c13;have c14:=S.c14;have f10:=S.fz 10 (by decide)
 have f13:=S.fz 13 (by decide)
 have f14:=S.fz 14 (by decide)
 clear S
 go_enter Tryz.func94,Tryz.ntmps94
 go_wp2
 go_region
 go_wp2
 go_end0
 refine ⟨rfl,HS.out.setF (fr2:=⟨fr.regs,a,fr.given,⟨3,o⟩⟩) ?_ ?_ rfl⟩
 ·exact (((((Kp.refl (fun k=>k=P.cb) w).setCell (p:=⟨P.cb,10,none⟩) (.inl rfl) _).setCell (p:=⟨P.cb,13,none⟩) (.inl rfl) _).setCell (p:=⟨P.cb,14,none⟩) (.inl rfl) _).alloc _).drew
 ·exact ((((HS.out.blk.set 10 (by simp [fcs,mcs]) (.int .i64 a)).set 13 (by simp [fcs,mcs]) (.int .i64 3)).set 14 (by simp [fcs,mcs]) (.int .i64 o)).alloc _).drew
theorem LftF.upon (S:ST E w0 L P m d h' fr' vs) (hb:Below w0.heap.size w0 w) (A:LftF E L P m d vs w w1 h fr){X:Nat→Prop}(K:Kp X w1 w2) (hX:∀ k,X k→w0.heap.size≤k∧k < w.heap.size):LftF E L P m d vs w0 w2 h fr:=by
 obtain ⟨L1,vs1,G,S1⟩:=A.opn;have hs:=hb.size;have hEB:=S.base;have lo:∀ k,fo E L P vs k→k < w0.heap.size:=fun k hk=>(S.fo_lo hk).2
 have nf:∀ k,X k→¬ fo E L1 P vs1 k:=fun k hk hf=>by
  obtain ⟨x1,x2⟩:=hX k hk
  rcases G.fo hf with q | q
  ·have:=lo k q;omega
  ·omega
 have K0:Kp (fo E L P vs) w0 w2:=((Kp.of_below (X:=fo E L P vs) hb (Nat.le_refl _)).trans G.kp (fun y hy=>.inl hy)).trans K (fun y hy=>.inr (hX y hy).1);refine ⟨L1,vs1,K0,fun k hk=>(G.ow k hk).imp id (fun q=>by omega),fun k hk=>(G.st k hk).imp id (fun q=>by omega),?_⟩
 have no:∀ k,fo E L1 P vs1 k→¬ X k:=fun k hk hx=>nf k hx hk;exact ⟨S1.H.keep K (fun k hk=>⟨by have:=(hX k hk).1;omega,fun q=>nf k hk (.inl q)⟩),S1.M.mono (K.below S1.base (fun k hk=>by have:=(hX k hk).1;omega)),S1.blk.next K (no _ (.inr (.inl rfl))),S1.loc.next K (no _ (.inr (.inr (.inl rfl)))),Nat.lt_of_lt_of_le S1.lbw K.size,row_keep S1.stk K (fun g hg=>no g (.inr (.inr (.inr hg)))),S1.lo,S1.far,S1.ne⟩
theorem LftS.upon (S:ST E w0 L P m d h' fr' vs) (hb:Below w0.heap.size w0 w) (A:LftS E L P d vs w w1 h){X:Nat→Prop}(K:Kp X w1 w2) (hX:∀ k,X k→w0.heap.size≤k∧k < w.heap.size):LftS E L P d vs w0 w2 h:=by
 obtain ⟨L1,K1,N1,H1⟩:=A;have hs:=hb.size;have hEB:=S.base
 have nf:∀ k,X k→¬ own E L1 k:=fun k hk hf=>by
  obtain ⟨x1,x2⟩:=hX k hk
  rcases N1 k hf with q | q
  ·have:=(own_lo S.H q).2;omega
  ·omega
 exact ⟨L1,((Kp.of_below (X:=fo E L P vs) hb (Nat.le_refl _)).trans K1 (fun y hy=>.inl hy)).trans K (fun y hy=>.inr (hX y hy).1),fun k hk=>(N1 k hk).imp id (fun q=>by omega),H1.keep K (fun k hk=>⟨by have:=(hX k hk).1;omega,nf k hk⟩)⟩
def frV (b:Nat):Value:=.agg #[.func (.func 92) #[.pointer (some ⟨b,0,none⟩)] #[],.func (.func 93) #[.pointer (some ⟨b,0,none⟩)] #[],.func (.func 94) #[.pointer (some ⟨b,0,none⟩)] #[]]
theorem cloP {b11 b12 b13:Nat}(n12:¬ fo E L P vs b12) (n13:¬ fo E L P vs b13) (h12:b12 < w.heap.size) (h13:b13 < w.heap.size) (hne:b12≠b13)
  (c11:w.cell? ⟨b11,0,none⟩=some (.func (.func 92) #[.pointer (some ⟨P.cb,0,none⟩)] #[])) (c12:w.cell? ⟨b12,0,none⟩=some (.bool false)) (f12:w.frozen? ⟨b12,0,none⟩=false) (c130:w.cell? ⟨b13,0,none⟩=some (.int .i64 0)) (c131:w.cell? ⟨b13,1,none⟩=some (.int .i64 0)) (f130:w.frozen? ⟨b13,0,none⟩=false) (f131:w.frozen? ⟨b13,1,none⟩=false)
  (a:Out Rf) (hdo:Calls Tryz.prog 92 #[.pointer (some ⟨P.cb,0,none⟩)] w (DoR E L P m d vs fr w a)) :
  Calls Tryz.prog 101 #[.pointer (some ⟨b11,0,none⟩),.pointer (some ⟨b13,0,none⟩),.pointer (some ⟨b12,0,none⟩)] w (CloR E L P m d vs fr b12 b13 w a):=by
 have hne2:=hne.symm
 go_enter Tryz.func101,Tryz.ntmps101
 go_wp2_with fail
 refine hdo.mono ?_;rintro e w2 R
 cases a with
 | go fr' h' =>
  obtain ⟨rfl,A⟩:=R;have y1:=A.box c12 n12;have y2:=A.boxf f12 h12 n12;have y3:=A.box c130 n13;have y4:=A.box c131 n13;have y5:=A.boxf f130 h13 n13;have y6:=A.boxf f131 h13 n13;replace A:=Lib.hid A
  go_wp2_with fail
  go_end0
  refine ⟨rfl,by go_simp,w2,A.out,(((Kp.refl _ w2).setCell (p:=⟨b13,0,none⟩) (.inl (.inr rfl)) _).setCell (p:=⟨b13,1,none⟩) (.inl (.inr rfl)) _).setCell (p:=⟨b12,0,none⟩) (.inl (.inl rfl)) _⟩
 | back v h' =>
  obtain ⟨vk,vn⟩:=v;obtain ⟨rfl,st,A⟩:=R;have y1:=A.box c12 n12;have y2:=A.boxf f12 h12 n12;have y3:=A.box c130 n13;have y4:=A.box c131 n13;have y5:=A.boxf f130 h13 n13;have y6:=A.boxf f131 h13 n13;replace A:=Lib.hid A
  go_wp2_with fail
  go_end0
  refine ⟨rfl,by go_simp,by go_simp,by go_simp,w2,st,A.out,(((Kp.refl _ w2).setCell (p:=⟨b13,0,none⟩) (.inl (.inr rfl)) _).setCell (p:=⟨b13,1,none⟩) (.inl (.inr rfl)) _).setCell (p:=⟨b12,0,none⟩) (.inl (.inl rfl)) _⟩
 | thrown o h' =>
  obtain ⟨⟨older,hol,rfl⟩,st,A⟩:=R;have y1:=A.box c12 n12;refine And.intro rfl ?_;exact ⟨⟨older,hol,rfl⟩,y1,st,A⟩
 | stop c h' =>
  obtain ⟨⟨older,hol,rfl⟩,A⟩:=R;refine And.intro rfl ?_;exact ⟨⟨older,hol,rfl⟩,A⟩
theorem LftF.upon2 (S:ST E w0 L P m d h' fr' vs) (hb:Below w0.heap.size w0 w) (A:LftF E L P m d vs w w1 h fr){X:Nat→Prop}(K:Kp X w1 w2) (hX:∀ k,X k→w0.heap.size≤k∧k < w.heap.size):∃ L1 vs1,Gr E L P vs w0 L1 vs1 w2∧ST E w2 L1 P m d h fr vs1∧∀ k,w0.heap.size≤k→k < w.heap.size→¬ fo E L1 P vs1 k:=by
 obtain ⟨L1,vs1,G,S1⟩:=A.opn;have hs:=hb.size;have hEB:=S.base;have lo:∀ k,fo E L P vs k→k < w0.heap.size:=fun k hk=>(S.fo_lo hk).2
 have nf:∀ k,X k→¬ fo E L1 P vs1 k:=fun k hk hf=>by
  obtain ⟨x1,x2⟩:=hX k hk
  rcases G.fo hf with q | q
  ·have:=lo k q;omega
  ·omega
 have K0:Kp (fo E L P vs) w0 w2:=((Kp.of_below (X:=fo E L P vs) hb (Nat.le_refl _)).trans G.kp (fun y hy=>.inl hy)).trans K (fun y hy=>.inr (hX y hy).1)
 refine ⟨L1,vs1,⟨K0,fun k hk=>(G.ow k hk).imp id (fun q=>by omega),fun k hk=>(G.st k hk).imp id (fun q=>by omega)⟩,?_,fun k l1 l2 hf=>by
  rcases G.fo hf with q | q
  ·have:=lo k q;omega
  ·omega⟩
 have no:∀ k,fo E L1 P vs1 k→¬ X k:=fun k hk hx=>nf k hx hk;exact ⟨S1.H.keep K (fun k hk=>⟨by have:=(hX k hk).1;omega,fun q=>nf k hk (.inl q)⟩),S1.M.mono (K.below S1.base (fun k hk=>by have:=(hX k hk).1;omega)),S1.blk.next K (no _ (.inr (.inl rfl))),S1.loc.next K (no _ (.inr (.inr (.inl rfl)))),Nat.lt_of_lt_of_le S1.lbw K.size,row_keep S1.stk K (fun g hg=>no g (.inr (.inr (.inr hg)))),S1.lo,S1.far,S1.ne⟩
set_option maxRecDepth 100000 in
theorem tryP (S:ST E w0 L P m d h fr vs) (hb:Below w0.heap.size w0 w){b11 b12 b13:Nat}(h12:w0.heap.size≤b12∧b12 < w.heap.size) (h13:w0.heap.size≤b13∧b13 < w.heap.size) (hne:b12≠b13)
  (c11:w.cell? ⟨b11,0,none⟩=some (.func (.func 92) #[.pointer (some ⟨P.cb,0,none⟩)] #[])) (c12:w.cell? ⟨b12,0,none⟩=some (.bool false)) (f12:w.frozen? ⟨b12,0,none⟩=false) (c130:w.cell? ⟨b13,0,none⟩=some (.int .i64 0)) (c131:w.cell? ⟨b13,1,none⟩=some (.int .i64 0)) (f130:w.frozen? ⟨b13,0,none⟩=false) (f131:w.frozen? ⟨b13,1,none⟩=false)
  (a:Out Rf) (hdo:∀ W,Below w.heap.size w W→Calls Tryz.prog 92 #[.pointer (some ⟨P.cb,0,none⟩)] W (DoR E L P m d vs fr W a)) :
  Calls Tryz.prog 100 #[.func (.func 101) #[] #[.pointer (some ⟨b11,0,none⟩),.pointer (some ⟨b13,0,none⟩),.pointer (some ⟨b12,0,none⟩)]] w (TryR2 E L P m d vs fr b12 b13 w0 a):=by
 have hmf:∀ (fn:Fn) (first cap:Array Value) (w:World),(Instr.makeFunc fn first cap).run Tryz.prog w=.ok (.func fn first cap) w:=fun _ _ _ _=>rfl
 have HS:=Lib.hid S;have HB:=Lib.hid hb;have hbs:=hb.size;have lo:∀ k,fo E L P vs k→k < w0.heap.size:=fun k hk=>(S.fo_lo hk).2;have n12:¬ fo E L P vs b12:=fun hk=>by have:=lo _ hk;omega
 have n13:¬ fo E L P vs b13:=fun hk=>by have:=lo _ hk;omega
 have nr:¬ fo E L P vs w.heap.size:=fun hk=>by have:=lo _ hk;omega
 have nr2:¬ fo E L P vs (w.heap.size+1):=fun hk=>by have:=lo _ hk;omega
 have h12b:=h12.2;have h13b:=h13.2;have l11:=cell_lt c11;have hDo:=Lib.hid (hdo ((w.alloc (.cells #[.int .i64 0] 2)).alloc (.cells #[.bool false] 4)) (by exact Rd.byB))
 have hBT:=Lib.hid (hb.trans (Below.mono (B:=w.heap.size) (show Below w.heap.size w ((w.alloc (.cells #[.int .i64 0] 2)).alloc (.cells #[.bool false] 4)) from Rd.byB) hbs));clear S hb lo hdo
 go_enter_defers Tryz.func100,Tryz.ntmps100
 go_wp2_with fail
 refine (cloP n12 n13 (by simp;omega) (by simp;omega) hne (by go_simp) (by go_simp) (by go_simp) (by go_simp) (by go_simp) (by go_simp) (by go_simp) a hDo.out).mono ?_
 rintro e w2 R
 cases a with
 | go fr' h' =>
  obtain ⟨rfl,y12,wd,A,K⟩:=R;have x0:=A.box (b:=w.heap.size) (o:=0) (v:=.int .i64 0) (by go_simp) nr
  have x1:=A.boxf (b:=w.heap.size) (o:=0) (x:=false) (by go_simp) (by simp;try omega) nr
  have x2:=A.box (b:=w.heap.size+1) (o:=0) (v:=.bool false) (by go_simp) nr2
  have x3:=A.boxf (b:=w.heap.size+1) (o:=0) (x:=false) (by go_simp) (by simp) nr2
  have z0:=K.cell x0 (by omega)
  have z1:=K.frz x1 (cell_lt x0) (by omega)
  have z2:=K.cell x2 (by omega)
  have z3:=K.frz x3 (cell_lt x2) (by omega)
  clear x0 x1 x2 x3
  go_wp2_with fail
  refine leaves_cons (f:=153) (args:=#[.pointer (some ⟨w.heap.size,0,none⟩),.pointer (some ⟨w.heap.size+1,0,none⟩)]) (by simp) (by simp [go_sem]) ?_
  refine (tryIdle _ _ _).mono ?_;rintro e u' w'' ⟨rfl,rfl,rfl⟩;have l0:=cell_lt z0;have l2:=cell_lt z2;simp [Leaves,settle,results,Tryz.results100,go_sem,z0,z2,l0,l2];refine ⟨rfl,by go_simp,LftF.upon HS.out hBT.out A (X:=fun k=>k=b12∨k=b13∨k=w.heap.size∨k=w.heap.size+1) (((K.mono (fun k hk=>hk.elim .inl (fun e=>.inr (.inl e)))).setCell (p:=⟨w.heap.size,0,none⟩) (.inl (.inr (.inr (.inl rfl)))) _).setCell (p:=⟨w.heap.size+1,0,none⟩) (.inl (.inr (.inr (.inr rfl)))) _) (fun k hk=>by simp;omega)⟩
 | back v h' =>
  obtain ⟨rfl,y12,y130,y131,wd,st,A,K⟩:=R;have x0:=A.box (b:=w.heap.size) (o:=0) (v:=.int .i64 0) (by go_simp) nr
  have x1:=A.boxf (b:=w.heap.size) (o:=0) (x:=false) (by go_simp) (by simp;try omega) nr
  have x2:=A.box (b:=w.heap.size+1) (o:=0) (v:=.bool false) (by go_simp) nr2
  have x3:=A.boxf (b:=w.heap.size+1) (o:=0) (x:=false) (by go_simp) (by simp) nr2
  have z0:=K.cell x0 (by omega)
  have z1:=K.frz x1 (cell_lt x0) (by omega)
  have z2:=K.cell x2 (by omega)
  have z3:=K.frz x3 (cell_lt x2) (by omega)
  clear x0 x1 x2 x3
  go_wp2_with fail
  refine leaves_cons (f:=153) (args:=#[.pointer (some ⟨w.heap.size,0,none⟩),.pointer (some ⟨w.heap.size+1,0,none⟩)]) (by simp) (by simp [go_sem]) ?_
  refine (tryIdle _ _ _).mono ?_;rintro e u' w'' ⟨rfl,rfl,rfl⟩;have l0:=cell_lt z0;have l2:=cell_lt z2;simp [Leaves,settle,results,Tryz.results100,go_sem,z0,z2,l0,l2];refine ⟨rfl,by go_simp,by go_simp,by go_simp,st,LftF.upon HS.out hBT.out A (X:=fun k=>k=b12∨k=b13∨k=w.heap.size∨k=w.heap.size+1) (((K.mono (fun k hk=>hk.elim .inl (fun e=>.inr (.inl e)))).setCell (p:=⟨w.heap.size,0,none⟩) (.inl (.inr (.inr (.inl rfl)))) _).setCell (p:=⟨w.heap.size+1,0,none⟩) (.inl (.inr (.inr (.inr rfl)))) _) (fun k hk=>by simp;omega)⟩
 | thrown o h' =>
  obtain ⟨⟨older,hol,rfl⟩,y12,st,A⟩:=R;have x0:=A.box (b:=w.heap.size) (o:=0) (v:=.int .i64 0) (by go_simp) nr
  have x1:=A.boxf (b:=w.heap.size) (o:=0) (x:=false) (by go_simp) (by simp;try omega) nr
  have x2:=A.box (b:=w.heap.size+1) (o:=0) (v:=.bool false) (by go_simp) nr2
  have x3:=A.boxf (b:=w.heap.size+1) (o:=0) (x:=false) (by go_simp) (by simp) nr2
  have hdw:=drop_all older hol
  go_wp2_with fail
  refine leaves_cons (f:=153) (args:=#[.pointer (some ⟨w.heap.size,0,none⟩),.pointer (some ⟨w.heap.size+1,0,none⟩)]) (by simp) (by simp [go_sem]) ?_
  refine (tryThrown w.heap.size (w.heap.size+1) o (by omega) older _ x0 x1 x2 x3).mono ?_
  rintro e u' w'' ⟨rfl,rfl,rfl⟩;have l0:=cell_lt x0;have l2:=cell_lt x2;have l12:=cell_lt y12;simp [Leaves,settle,hdw,results,Tryz.results100,go_sem,x0,x2,l0,l2];obtain ⟨L9,v9,G9,S9,N9⟩:=LftF.upon2 HS.out hBT.out A (X:=fun k=>k=w.heap.size∨k=w.heap.size+1) ((((Kp.refl (fun k=>k=w.heap.size∨k=w.heap.size+1) w2).setCell (p:=⟨w.heap.size,0,none⟩) (.inl (.inl rfl)) (.int .i64 o)).setCell (p:=⟨w.heap.size+1,0,none⟩) (.inl (.inr rfl)) (.bool true)).alloc (.cells #[.int .i64 o] 90)) (fun k hk=>by simp;omega)
  exact ⟨rfl,by go_simp,st,L9,v9,G9,S9,N9 b12 h12.1 (by simp;omega)⟩
 | stop c h' =>
  obtain ⟨⟨older,hol,rfl⟩,A⟩:=R
  go_wp2_with fail
  refine leaves_cons (f:=153) (args:=#[.pointer (some ⟨w.heap.size,0,none⟩),.pointer (some ⟨w.heap.size+1,0,none⟩)]) (by simp) (by simp [go_sem]) ?_
  refine (tryStop _ _ c older _).mono ?_;rintro e u' w'' ⟨rfl,rfl,rfl⟩;simp only [Leaves,raised];refine ⟨⟨{ v:=stopV c,recovered:=true } :: older,fun x hx=>?_,rfl⟩,LftS.upon HS.out hBT.out A (X:=fun _=>False) ((Kp.refl _ w2).alloc _) (fun k hk=>hk.elim)⟩
  rcases List.mem_cons.1 hx with e | e
  ·subst e;rfl
  ·exact hol x e
end
end Hpr
namespace Hpw
open Num Rd D Run Mem HierW
def L0:Lay:=⟨.slice none 0 0,.slice none 0 0,[]⟩
def h0:Hp:=⟨[],[],0,0⟩
section
variable {w:World}{B:Nat}{f:Fi}
theorem phNew {w1:World}{B:Nat}{f:Fi}{input:List Int}{vc vm vi:Value}(hc:Sl 2 ECls w1 B vc f.classes) (hm:Sl 8 EMe w1 B vm f.methods) (hi:Sl 1 EInt w1 B vi input) (hB:B≤w1.heap.size) (fuel:Nat) (T:TypeId) :
  PH ⟨f,input,fuel,w1.heap.size,B,vc,vm,vi⟩ (w1.alloc (.cells #[vc,vm,.int .i64 0,.int .i64 0,.int .i64 0,.slice none 0 0,.int .i64 0,.int .i64 0,.slice none 0 0,vi,.int .i64 0,.int .i64 fuel] T)) L0 h0 0:=by
 have hb:Below B w1 (w1.alloc (.cells #[vc,vm,.int .i64 0,.int .i64 0,.int .i64 0,.slice none 0 0,.int .i64 0,.int .i64 0,.slice none 0 0,vi,.int .i64 0,.int .i64 fuel] T)):=(Below.refl B w1).alloc hB _;exact ⟨Blk.made w1 [vc,vm,.int .i64 0,.int .i64 0,.int .i64 0,.slice none 0 0,.int .i64 0,.int .i64 0,.slice none 0 0,vi,.int .i64 0,.int .i64 fuel] T,hc.mono mCls hb (Nat.le_refl _),hm.mono mMe hb (Nat.le_refl _),hi.mono mInt hb (Nat.le_refl _),World.ownsRow_nil ..,World.ownsRow_nil ..,rfl,fun i hi=>absurd hi (by simp [L0]),⟨hB,by simp,by simp [L0]⟩,by simp [L0,Value.ownBlock],by simp [L0]⟩
def BeginE (w:World) (c:Int) (e:Ending) (w':World):Prop:=e=.returned (.tuple #[.pointer none,.slice none 0 0,.int .i64 c])∧Below w.heap.size w w'
set_option maxRecDepth 100000 in
theorem begin1 {vf va vi:Value}(Hf:VFi w B vf f) (entry fuel:Int) (hq:entry < 0∨(f.methods.length:Int)≤entry∨fuel < 0∨60000 < fuel):Calls Tryz.prog 21 #[vf,.int .i64 entry,va,vi,.int .i64 fuel] w (BeginE w 4):=by
 obtain ⟨vc,vm,rfl,hc,hm⟩:=Hf;obtain ⟨a,cap,rfl,k1,k2,_⟩:=hc;obtain ⟨ma,mcap,rfl,k3,k4,_⟩:=hm
 by_cases q1:entry < 0
 ·clear hq
  go_enter Tryz.func21,Tryz.ntmps21
  go_wp2
  go_ret3
  exact ⟨rfl,by exact Rd.byB⟩
 by_cases q2:(f.methods.length:Int)≤entry
 ·clear hq
  go_enter Tryz.func21,Tryz.ntmps21
  go_wp2
  go_ret3
  exact ⟨rfl,by exact Rd.byB⟩
 by_cases q3:fuel < 0
 ·clear hq
  go_enter Tryz.func21,Tryz.ntmps21
  go_wp2
  go_ret3
  exact ⟨rfl,by exact Rd.byB⟩
 have q4:60000 < fuel:=by omega
 clear hq
 go_enter Tryz.func21,Tryz.ntmps21
 go_wp2
 go_ret3
 exact ⟨rfl,by exact Rd.byB⟩
set_option maxRecDepth 100000 in
theorem begin3 {vf va vi:Value}(Hf:VFi w B vf f) (entry fuel:Int) (q1:¬ entry < 0) (q2:¬ (f.methods.length:Int)≤entry) (q3:¬ fuel < 0) (q4:¬ 60000 < fuel){input:List Int}(hi:Sl 1 EInt w B vi input) (h3:1000 < input.length):Calls Tryz.prog 21 #[vf,.int .i64 entry,va,vi,.int .i64 fuel] w (BeginE w 1):=by
 obtain ⟨vc,vm,rfl,hc,hm⟩:=Hf;obtain ⟨a,cap,rfl,k1,k2,_⟩:=hc;obtain ⟨ma,mcap,rfl,k3,k4,_⟩:=hm;obtain ⟨ia,icap,rfl,k5,k6,_⟩:=hi;have h3':(1000:Int) < input.length:=by omega
 go_enter Tryz.func21,Tryz.ntmps21
 go_wp2
 go_ret3
 exact ⟨rfl,by exact Rd.byB⟩
set_option maxRecDepth 100000 in
theorem begin4 {vf va vi:Value}(Hf:VFi w B vf f) (hB:B≤w.heap.size) (k:Nat) (hk:k < f.methods.length) (fuel:Int) (q3:¬ fuel < 0) (q4:¬ 60000 < fuel){input args:List Int}(hi:Sl 1 EInt w B vi input) (h3:input.length≤1000) (ha:Sl 1 EInt w B va args) (h4:args.length≠(f.methods[k]).params.length):Calls Tryz.prog 21 #[vf,.int .i64 k,va,vi,.int .i64 fuel] w (BeginE w 3):=by
 obtain ⟨vc,vm,rfl,hc,hm⟩:=Hf;obtain ⟨a,cap,rfl,k1,k2,_⟩:=hc;obtain ⟨ma,mcap,rfl,k3,k4,hel⟩:=hm;obtain ⟨ia,icap,rfl,k5,k6,_⟩:=hi;obtain ⟨aa,acap,rfl,k7,k8,_⟩:=ha;obtain ⟨mb,mo,rfl,hmb,vp,vco,vh,m0,m1,m2,m3,m4,m5,m6,m7,mok,hp,hco,hh⟩:=hel k hk;obtain ⟨pa,pcap,rfl,k9,k10,_⟩:=hp;have h3':¬ (1000:Int) < input.length:=by omega
 have hk':(k:Int) < f.methods.length:=by omega
 have q1:¬ (k:Int) < 0:=by omega
 have q2:¬ (f.methods.length:Int)≤k:=by omega
 have l1:mb < w.heap.size:=by omega
 have l2:mb < w.heap.size+1:=by omega
 have h4':((args.length:Int) != (f.methods[k].params.length:Int))=true:=by simp;omega
 have h4'':¬ (args.length:Int)=(f.methods[k].params.length:Int):=by omega
 clear hel
 go_enter Tryz.func21,Tryz.ntmps21
 go_wp2
 go_ret3
 exact ⟨rfl,by exact Rd.byB⟩
def argsTo (m:Me) (args:List Int) (n:Nat):List Vl:=(List.zipWith argOf m.params args).take n
def BegR (w:World) (f:Fi) (m:Me) (args input:List Int) (fuel:Int) (vc vm vi:Value) (e:Ending) (w':World):Prop :=
 if m.params.any (fun t=>decide (t.kind=3))=true then BeginE w 3 e w'
 else ∃ (hb:Nat) (vl:Value),e=.returned (.tuple #[.pointer (some ⟨hb,0,none⟩),vl,.int .i64 0])∧PH ⟨f,input,fuel.toNat,hb,w.heap.size,vc,vm,vi⟩ w' L0 h0 0∧VS w' (fun k=>k=hb) vl (List.zipWith argOf m.params args)∧Below w.heap.size w w'
theorem grow_kp {B n size:Nat}{T:TypeId}{v:Value}{xs:List Value}{wr W w2:World}(hW:Below wr.heap.size wr W) (hown:wr.ownsRow B T size v n xs) (hg:W.grownBy w2 v.ownBlock):Kp (fun k=>B≤k) wr w2 :=
 (kpB hW).trans (Kp.of_grown (X:=fun k=>B≤k) hg (fun k e=>(World.ownsRow.lt hown k e).1)) (fun _ h=>.inl h)
theorem vsRow {base:Nat}{T:TypeId}{X:Nat→Prop}{v:Value}{l:List Vl}(H:w.ownsRow base T 2 v l.length (vcells l)) (hX:∀ k,X k→k < base):VS w X v l:=by
 by_cases h0:0 < l.length
 ·obtain ⟨g,cap,hv,c1,c2,c3,c4⟩:=row_form H h0;rw [hv] at H ⊢;refine ⟨_,cap,rfl,c1,c2,fun i hi=>⟨g,0,rfl,fun hx=>by have:=hX g hx;omega,?_,?_⟩⟩
  ·have:=row_cell H (vcells_get l i hi).1
   rw [Nat.zero_add,this,List.getD_eq_getElem?_getD,List.getElem?_eq_getElem hi];rfl
  ·have:=row_cell H (vcells_get l i hi).2
   rw [Nat.zero_add,this,List.getD_eq_getElem?_getD,List.getElem?_eq_getElem hi];rfl
 ·have hl:l=[]:=List.eq_nil_of_length_eq_zero (by omega)
  subst hl;obtain ⟨a,cap,hv⟩:=row_any H
  rcases H.2 with ⟨hn,_⟩ | ⟨g,cap',cur,hv',_,_,_,hm,_⟩
  ·rw [hn];exact VS.nil _ _
  ·rw [hv'];exact VS.zero (by unfold maxLen at hm;exact hm)
theorem argsTo_succ {m:Me}{args:List Int}{n:Nat}(h1:n < m.params.length) (h2:n < args.length):argsTo m args (n+1)=argsTo m args n++[argOf m.params[n] args[n]]:=by
 unfold argsTo;rw [List.take_succ_eq_append_getElem (by simp;omega)]
 simp
set_option maxRecDepth 100000 in
theorem begin5 {vc vm va vi:Value}(hc:Sl 2 ECls w B vc f.classes) (hm:Sl 8 EMe w B vm f.methods) (hB:B≤w.heap.size) (k:Nat) (hk:k < f.methods.length) (fuel:Int) (q3':¬ fuel < 0) (q4:¬ 60000 < fuel){input args:List Int}(hi:Sl 1 EInt w B vi input) (h3:input.length≤1000) (ha:Sl 1 EInt w B va args) (h4:args.length=(f.methods[k]).params.length) (h5:(f.methods[k]).params.length≤4) (hty:∀ t∈(f.methods[k]).params,t.kind=1∨t.kind=2∨t.kind=3):Calls Tryz.prog 21 #[.agg #[vc,vm],.int .i64 k,va,vi,.int .i64 fuel] w (BegR w f f.methods[k] args input fuel vc vm vi):=by
 obtain ⟨io,hi',hy0,hy1,hy2⟩:=info_parts info_valP;obtain ⟨fu,rfl⟩:∃ n:Nat,fuel=(n:Int):=⟨fuel.toNat,by omega⟩
 have HCL:=Lib.hid hc;have HME:=Lib.hid hm;have HIN:=Lib.hid hi;have HTY:=Lib.hid hty;obtain ⟨a,cap,rfl,k1,k2,_⟩:=hc;obtain ⟨ma,mcap,rfl,k3,k4,hel⟩:=hm;obtain ⟨ia,icap,rfl,k5,k6,_⟩:=hi;obtain ⟨aa,acap,rfl,k7,k8,hea⟩:=ha;obtain ⟨mb,mo,rfl,hmb,vp,vco,vh,m0,m1,m2,m3,m4,m5,m6,m7,mok,hp,hco,hh⟩:=hel k hk;obtain ⟨pa,pcap,rfl,k9,k10,hep⟩:=hp;have h3':¬ (1000:Int) < input.length:=by omega
 have hk':(k:Int) < f.methods.length:=by omega
 have q1:¬ (k:Int) < 0:=by omega
 have q2:¬ (f.methods.length:Int)≤k:=by omega
 have l1:mb < w.heap.size:=by omega
 have l2:mb < w.heap.size+1:=by omega
 have hea':=Lib.hid hea;have hep':=Lib.hid hep;obtain ⟨np,hnp⟩:∃ np,np=f.methods[k].params.length:=⟨_,rfl⟩;have h4':args.length=np:=by omega
 have h4'':((args.length:Int) != (f.methods[k].params.length:Int))=false:=by simp;omega
 clear hel hea hep hty
 go_enter Tryz.func21,Tryz.ntmps21
 go_wp2
 go_loopw [13,56] (fun v i wr=>∃ n:Nat,i=.int .i64 n∧n≤np∧Below w.heap.size w wr∧w.heap.size+1≤wr.heap.size∧Hid (wr.ownsRow (w.heap.size+1) 46 2 v n (vcells (argsTo f.methods[k] args n)))∧wr.cell? ⟨w.heap.size,0,none⟩=some (.slice a f.classes.length cap)∧wr.cell? ⟨w.heap.size,1,none⟩=some (.slice (some ⟨mb,mo,none⟩) f.methods.length mcap)∧Hid (∀ j (hj:j < f.methods[k].params.length),j < n→(f.methods[k].params[j]).kind≠3)) (fun _ i _=>np - (intOf i).toNat)
 case atStart=>exact ⟨0,rfl,Nat.zero_le _,by exact Rd.byB,by simp,World.ownsRow_nil _ _ _ _,by go_simp,by go_simp,fun j _ h=>absurd h (by omega)⟩
 case round =>
  obtain ⟨n,rfl,hn,hb,hsz,HR,x0,x1,hall⟩:=hrel
  by_cases hlt:n < np
  ·have hl1:n < f.methods[k].params.length:=by omega
   have hl2:n < args.length:=by omega
   obtain ⟨pb,po,rfl,hpb,p0,p1,_⟩:=hep'.out n hl1;obtain ⟨ab,ao,rfl,hab,z0,_⟩:=hea'.out n hl2;have l3:pb < w.heap.size:=by omega
   have l4:ab < w.heap.size:=by omega
   have p0':=kept hb l3 p0;have p1':=kept hb l3 p1;rw [Nat.mul_one] at z0;have z0':=kept hb l4 z0;obtain ⟨t,ht⟩:=at_of hl1;obtain ⟨x,hx⟩:=at_of hl2;rw [ht.out] at p0' p1';rw [hx.out] at z0';have htk:t.kind=1∨t.kind=2∨t.kind=3:=by have:=HTY.out _ (List.getElem_mem hl1);rwa [ht.out] at this
   have hww:wrap64 (wrap32 x)=wrap32 x:=wrap64_id (wrap32_ok x);have hn1:(n:Int) < args.length:=by omega
   have hn2:(n:Int) < f.methods[k].params.length:=by omega
   have l5:pb < wr.heap.size:=Nat.lt_of_lt_of_le l3 hb.size;have l6:ab < wr.heap.size:=Nat.lt_of_lt_of_le l4 hb.size;have l7:w.heap.size < wr.heap.size:=by omega
   clear p0 p1 z0 m0 m1 m2 m3 m4 m5 m6 m7
   by_cases q3:t.kind=3
   ·have hif:=Lib.hid (List.any_eq_true.2 ⟨_,List.getElem_mem hl1,by rw [ht.out];simpa using q3⟩:f.methods[k].params.any (fun t=>decide (t.kind=3))=true)
    rw [q3] at p0';clear q3 htk
    go_wp2
    go_ret3
    unfold BegR;rw [if_pos hif.out];exact ⟨rfl,by exact Rd.byB⟩
   rcases htk with q1 | q1 | q1
   ·have q1h:=Lib.hid q1;rw [q1] at p0';clear q1
    go_wp2_with (at_builtin;refine wpList_append_lies _ rfl (.tmp 65) (.tmp 73) 41 rfl (w.heap.size+1) 46 io (.agg #[.int .i64 0,.int .i64 0]) 2 16 Tryz.underlying41 hi' hy0 hy1 hy2 rfl (by decide) u13 n (vcells (argsTo f.methods[k] args n)) (by simp [Act.eval,Act.put]) (row_keep HR.out (kpB (X:=fun _=>False) (w0:=wr) (by exact Rd.byB)) (fun g _ e=>e)) ⟨wr.heap.size+1,0,none⟩ 1 1 [.int .i64 1,.int .i64 (wrap32 x)] (by simp [Act.eval,Act.put]) rfl (by exact news_of (by simp)) (by simp [Value.oneCell']) (by decide) (by unfold maxLen;omega) (by omega) (by simp;omega) _ rfl ?_;intro g2 cap2 w3 hown3 hgrow3 hat3 hlt3;have KG:=grow_kp (by exact Rd.byB) HR.out hgrow3;have e0:=KG.cell x0 (by omega);have e1:=KG.cell x1 (by omega);have hsz3:=KG.size;replace KG:=Lib.hid KG;replace hown3:=Lib.hid hown3;clear hgrow3 hat3)
    refine ⟨⟨n+1,by go_num,hlt,hb.trans (KG.out.below (by omega) (fun k hk=>by omega)),by omega,?_,e0,e1,fun j hj hjn=>?_⟩,by simp only [intOf];omega⟩
    ·have ea:=argsTo_succ (m:=f.methods[k]) (args:=args) hl1 hl2;rw [ht.out,hx.out] at ea;have eb:argOf t x=⟨1,wrap32 x⟩:=by unfold argOf;rw [if_pos q1h.out]
     rw [eb] at ea;rw [ea,vcells_append];exact hown3
    ·by_cases hjn2:j < n
     ·exact hall.out j hj hjn2
     ·obtain rfl:j=n:=by omega
      rw [ht.out];exact q3
   ·have q1h:=Lib.hid q1;rw [q1] at p0';clear q1
    go_wp2_with (at_builtin;refine wpList_append_lies _ rfl (.tmp 77) (.tmp 83) 41 rfl (w.heap.size+1) 46 io (.agg #[.int .i64 0,.int .i64 0]) 2 16 Tryz.underlying41 hi' hy0 hy1 hy2 rfl (by decide) u13 n (vcells (argsTo f.methods[k] args n)) (by simp [Act.eval,Act.put]) (row_keep HR.out (kpB (X:=fun _=>False) (w0:=wr) (by exact Rd.byB)) (fun g _ e=>e)) ⟨wr.heap.size+1,0,none⟩ 1 1 [.int .i64 2,.int .i64 x] (by simp [Act.eval,Act.put]) rfl (by exact news_of (by simp)) (by simp [Value.oneCell']) (by decide) (by unfold maxLen;omega) (by omega) (by simp;omega) _ rfl ?_;intro g2 cap2 w3 hown3 hgrow3 hat3 hlt3;have KG:=grow_kp (by exact Rd.byB) HR.out hgrow3;have e0:=KG.cell x0 (by omega);have e1:=KG.cell x1 (by omega);have hsz3:=KG.size;replace KG:=Lib.hid KG;replace hown3:=Lib.hid hown3;clear hgrow3 hat3)
    refine ⟨⟨n+1,by go_num,hlt,hb.trans (KG.out.below (by omega) (fun k hk=>by omega)),by omega,?_,e0,e1,fun j hj hjn=>?_⟩,by simp only [intOf];omega⟩
    ·have ea:=argsTo_succ (m:=f.methods[k]) (args:=args) hl1 hl2;rw [ht.out,hx.out] at ea;have eb:argOf t x=⟨2,x⟩:=by unfold argOf;rw [if_neg (by rw [q1h.out];decide),q1h.out]
     rw [eb] at ea;rw [ea,vcells_append];exact hown3
    ·by_cases hjn2:j < n
     ·exact hall.out j hj hjn2
     ·obtain rfl:j=n:=by omega
      rw [ht.out];exact q3
   ·exact absurd q1 q3
  ·have hn1:¬ (n:Int) < args.length:=by omega
   obtain rfl:n=np:=by omega
   go_wp2
   go_ret3
   have hb0:Below B w wr:=(kpB (X:=fun _=>False) hb).below hB (fun _ e=>e.elim)
   have hnone:¬ (f.methods[k].params.any (fun t=>decide (t.kind=3))=true):=fun he=>by
    obtain ⟨t,ht,h3⟩:=List.any_eq_true.1 he;obtain ⟨j,hj,rfl⟩:=List.getElem_of_mem ht;exact hall.out j hj (by omega) (by simpa using h3)
   unfold BegR;rw [if_neg hnone];have hlen:(List.zipWith argOf f.methods[k].params args).length=n:=by rw [List.length_zipWith];omega
   have ea:argsTo f.methods[k] args n=List.zipWith argOf f.methods[k].params args:=by unfold argsTo;rw [← hlen,List.take_length]
   have HR':=HR.out;rw [ea] at HR';have HR2:wr.ownsRow (w.heap.size+1) 46 2 u13 (List.zipWith argOf f.methods[k].params args).length (vcells (List.zipWith argOf f.methods[k].params args)):=by rw [hlen];exact HR'
   have V:=vsRow (X:=fun _=>False) HR2 (fun _ e=>e.elim);refine ⟨wr.heap.size,u13,rfl,phNew (HCL.out.mono mCls hb0 hB) (HME.out.mono mMe hb0 hB) (HIN.out.mono mInt hb0 hB) hb.size fu _,V.next (kpB (X:=fun _=>False) (by exact Rd.byB)) (fun _ _ e=>e) (fun b hlt e=>by omega),hb.trans ((kpB (X:=fun _=>False) (w0:=wr) (by exact Rd.byB)).below hb.size (fun _ e=>e.elim))⟩
end
end Hpw
namespace Hpr
open Num Rd D Run Mem HierW Hpw
def InvOk (E:Ev) (d g:Nat) (h:Hp):Prop:=∀ (k:Nat) (args:List Vl) (h1:Hp),k < E.f.methods.length→HpOk E.f.classes E.input E.fuel h1→h1.steps=h.steps→(∀ v∈args,VtOk h1.objs.length v)→args.length=(meAt E.f k).params.length →
 ∀ (L:Lay) (W:World) (mv va:Value) (X:Nat→Prop),PH E W L h1 d→VMe W E.B mv (meAt E.f k)→VS W X va args→(∀ j,own E L j→X j)→Calls Tryz.prog 45 #[.pointer (some ⟨E.hb,0,none⟩),mv,va] W (InvR E L d W (call RM E.f E.input E.fuel g d (meAt E.f k) args h1))
def CalR (E:Ev) (L:Lay) (P:PS) (m:Me) (d:Nat) (vs:Value) (fr:Rf) (w:World) (a:Out Rf) (e:Ending) (w':World):Prop:=match a with
 | .go fr' h=>e=.returned (.tuple #[])∧LftF E L P m d vs w w' h ⟨fr'.regs,fr.at_,fr'.given,Vl.nil⟩
 | .back _ _=>False
 | .thrown o h=>Pan (thrownV o) e∧LftF E L P m d vs w w' h (clr fr)
 | .stop c h=>Pan (stopV c) e∧LftS E L P d vs w w' h
def calA (E:Ev) (g d:Nat) (m m2:Me) (fr:Rf) (args:List Int) (h:Hp):Out Rf:=match rargs fr args m2.params with
 | none=>.stop 6 h
 | some vals=>outC RM m m2 ⟨fr.regs,fr.at_,Vl.nil,Vl.nil⟩ (call RM E.f E.input E.fuel g d m2 vals h)
theorem rargs_yes {fr:Rf}:∀ (ts:List Ty) (xs:List Int),xs.length=ts.length→(∀ j (h1:j < ts.length) (h2:j < xs.length),(rd fr xs[j]).kind=ts[j].kind)→rargs fr xs ts=some (xs.map (rd fr)):=by
 intro ts
 induction ts with
 | nil=>intro xs hl _;cases xs <;> simp_all [rargs]
 | cons t ts ih =>
  intro xs hl hk
  cases xs with
  | nil=>simp at hl
  | cons x xs =>
   simp only [rargs];have h0:(rd fr x).kind=t.kind:=hk 0 (by simp) (by simp)
   rw [if_pos h0,ih xs (by simpa using hl) (fun j h1 h2=>hk (j+1) (by simp;omega) (by simp;omega))]
   rfl
theorem rargs_no {fr:Rf}:∀ (ts:List Ty) (xs:List Int) (j:Nat) (h1:j < ts.length) (h2:j < xs.length),(rd fr xs[j]).kind≠ts[j].kind→rargs fr xs ts=none:=by
 intro ts
 induction ts with
 | nil=>intro xs j h1;simp at h1
 | cons t ts ih =>
  intro xs j h1 h2 hk
  cases xs with
  | nil=>simp at h2
  | cons x xs =>
   simp only [rargs]
   cases j with
   | zero=>rw [if_neg (by simpa using hk)]
   | succ j =>
    split
    ·rw [ih xs j (by simpa using h1) (by simpa using h2) (by simpa using hk)];rfl
    ·rfl
section
variable {E:Ev}{w w' w1 w2:World}{L L' L1:Lay}{h h' h1 h2:Hp}{d:Nat}{P:PS}{m m2:Me}{vs vs1:Value}{rg:List Vl}{ap:Nat}
set_option maxRecDepth 100000 in
theorem calledP (S:ST E w L P m d h ⟨rg,ap,Vl.nil,Vl.nil⟩ vs) (HO:HpOk E.f.classes E.input E.fuel h) (hf:RfOk m h.objs.length ⟨rg,ap,Vl.nil,Vl.nil⟩) (h1000:rg.length≤1000) (k:Nat) (hk:k < E.f.methods.length) (hm2:meAt E.f k=m2) (h4:m2.params.length≤4) (hty:∀ t∈m2.params,1≤t.kind∧t.kind≤3) (b c n op:Int) (args:List Int) (aa:Option Addr) (acap:Nat) (hla:args.length=m2.params.length) (hreg:∀ j (hj:j < args.length),0≤args[j]∧args[j].toNat < rg.length) (hva:Sl 1 EInt w E.B (.slice aa args.length acap) args) (g:Nat) (HI:InvOk E d g h) (hmany:E.f.methods.length≤8) :
  Calls Tryz.prog 150 #[.pointer (some ⟨P.cb,0,none⟩),.agg #[.int .i64 op,.int .i64 k,.int .i64 b,.int .i64 c,.int .i64 n,.slice aa args.length acap]] w (CalR E L P m d vs ⟨rg,ap,Vl.nil,Vl.nil⟩ w (calA E g d m m2 ⟨rg,ap,Vl.nil,Vl.nil⟩ args h)):=by
 obtain ⟨io,hi',hy0,hy1,hy2⟩:=info_parts info_valP;obtain ⟨act,hact⟩:∃ act,Hid (calA E g d m m2 ⟨rg,ap,Vl.nil,Vl.nil⟩ args h=act):=⟨_,Lib.hid rfl⟩;rw [hact.out];have HS:=Lib.hid S;have HIV:=Lib.hid HI;have hcb:=S.cbw;have hB:=S.base;have nf:=S.fo_new (Nat.le_refl _);have nf1:=S.fo_new (Nat.le_succ w.heap.size);have c0:w.cell? ⟨P.cb,0,none⟩=some (.pointer (some ⟨E.hb,0,none⟩)):=S.c0;have c1:=S.H.c1;have hhb:=S.H.hbw;obtain ⟨ma,mcap,hvm,q1,q2,mel⟩:=S.H.mes;obtain ⟨mb,mo,rfl,hmb,hme⟩:=mel k hk;have em:E.f.methods[k]=m2:=by rw [← hm2];unfold meAt;rw [List.getD_eq_getElem?_getD,List.getElem?_eq_getElem hk];rfl
 rw [em] at hme;obtain ⟨vp,vc,vh,x0,x1,x2,x3,x4,x5,x6,x7,oks,sps,sco,shs⟩:=hme;have hVM:VMe w E.B (.agg #[vp,.int .i64 m2.ret.kind,.int .i64 m2.ret.cls,.int .i64 m2.stack,.int .i64 m2.locals,.int .i64 m2.regs,vc,vh]) m2:=⟨vp,vc,vh,rfl,oks,sps,sco,shs⟩;obtain ⟨pa,pcap,rfl,p1,p2,pel⟩:=id sps;obtain ⟨ca,ccap,rfl,p3,p4,pel2⟩:=id sco;obtain ⟨ha,hcap,rfl,p5,p6,pel3⟩:=id shs;obtain ⟨aa',acap',ea,a1,a2,ael⟩:=id hva;simp only [Value.slice.injEq,true_and] at ea;obtain ⟨rfl,rfl⟩:=ea;rw [hvm] at c1;have hbm:=Nat.lt_of_lt_of_le hmb hB;have hkl:(k:Int) < E.f.methods.length:=by omega
 have HVM:=Lib.hid hVM;have PEL:=Lib.hid pel;have AEL:=Lib.hid ael;have hcb1:P.cb < w.heap.size+1:=by omega
 have hhb1:E.hb < w.heap.size+1:=by omega
 have hbm1:mb < w.heap.size+1:=by omega
 obtain ⟨np,hnp⟩:∃ np,np=m2.params.length:=⟨_,rfl⟩;clear S HI q1 q2 mel oks sps sco shs hVM p1 p2 pel p3 p4 pel2 p5 p6 pel3 hva ael
 go_enter Tryz.func150,Tryz.ntmps150
 go_wp2_with fail
 go_region
 go_wp2_with fail
 generalize hW:World.drew _=W
 replace hW:=Lib.hid hW;have HBW:=Lib.hid (show Below w.heap.size w W from by rw [← hW.out];exact Rd.byB)
 have i5:W.cell? ⟨w.heap.size,5,none⟩=some (.slice aa args.length acap):=by rw [← hW.out];go_simp
 have BM:Hid (Blk W (w.heap.size+1) [.slice pa m2.params.length pcap,.int .i64 m2.ret.kind,.int .i64 m2.ret.cls,.int .i64 m2.stack,.int .i64 m2.locals,.int .i64 m2.regs,.slice ca m2.code.length ccap,.slice ha m2.handlers.length hcap]):=by
  show Blk _ _ _
  rw [← hW.out];exact (Blk.made1 w _ [.slice pa m2.params.length pcap,.int .i64 m2.ret.kind,.int .i64 m2.ret.cls,.int .i64 m2.stack,.int .i64 m2.locals,.int .i64 m2.regs,.slice ca m2.code.length ccap,.slice ha m2.handlers.length hcap] _).drew
 have hsW:w.heap.size+2≤W.heap.size:=by rw [← hW.out];simp
 clear hW x0 x1 x2 x3 x4 x5 x6 x7 c1;have hnp4:np≤4:=by omega
 have hlan:=Lib.hid (show args.length=np by omega)
 replace hnp:=Lib.hid hnp;replace hla:=Lib.hid hla
 go_loopw [5,23] (fun v i wr=>∃ q:Nat,i=.int .i64 q∧q≤np∧Hid (Below w.heap.size w wr)∧w.heap.size+2≤wr.heap.size∧Hid (wr.ownsRow (w.heap.size+2) 46 2 v q (vcells ((args.take q).map (rd ⟨rg,ap,Vl.nil,Vl.nil⟩))))∧wr.cell? ⟨w.heap.size,5,none⟩=some (.slice aa args.length acap)∧Hid (Blk wr (w.heap.size+1) [.slice pa m2.params.length pcap,.int .i64 m2.ret.kind,.int .i64 m2.ret.cls,.int .i64 m2.stack,.int .i64 m2.locals,.int .i64 m2.regs,.slice ca m2.code.length ccap,.slice ha m2.handlers.length hcap])∧Hid (∀ j (h1:j < m2.params.length) (h2:j < args.length),j < q→(rd ⟨rg,ap,Vl.nil,Vl.nil⟩ args[j]).kind=m2.params[j].kind)) (fun _ i _=>np - (intOf i).toNat)
 case atStart=>exact ⟨0,rfl,Nat.zero_le _,HBW,hsW,Lib.hid (World.ownsRow_nil _ _ _ _),i5,BM,Lib.hid (fun j _ _ h=>absurd h (by omega))⟩
 case round =>
  clear HBW BM i5 hsW;obtain ⟨q,rfl,hq,HBr,hsr,HR,i5,BM,HALL⟩:=hrel;obtain ⟨ua,ucap,hu⟩:=row_any HR.out;subst hu
  by_cases hlt:q < np
  ·have hl1:q < m2.params.length:=by rw [← hnp.out];exact hlt
   have hl2:q < args.length:=by rw [hlan.out];exact hlt
   obtain ⟨pb,po,rfl,hpb,p0,p1,_⟩:=PEL.out q hl1;obtain ⟨ab,ao,rfl,hab,z0,_⟩:=AEL.out q hl2;obtain ⟨t,ht⟩:=at_of hl1;obtain ⟨x,hx⟩:=at_of hl2;obtain ⟨r0,r1⟩:=hreg q hl2;rw [ht.out] at p0 p1;rw [hx.out] at z0 r0 r1;rw [Nat.mul_one] at z0;obtain ⟨kx,rfl⟩:∃ kx:Nat,x=(kx:Int):=⟨x.toNat,by omega⟩
   rw [Int.toNat_natCast] at r1;have l1:pb < w.heap.size:=by omega
   have l2:ab < w.heap.size:=by omega
   have p0':=kept HBr.out l1 p0;have p1':=kept HBr.out l1 p1;have z0':=kept HBr.out l2 z0;have hq1:(q:Int) < args.length:=by omega
   have hq2:(q:Int) < m2.params.length:=by omega
   have g1:=cell_lt p0';have g2:=cell_lt z0';have g3:=cell_lt i5;have g4:P.cb < wr.heap.size:=by omega
   obtain ⟨tk,tc⟩:=t;simp only at p0' p1';clear p0 p1 z0
   go_wp2_with fail
   generalize hW1:World.alloc wr _=W1
   replace hW1:=Lib.hid hW1;have HB1:=Lib.hid (show Below wr.heap.size wr W1 from by rw [← hW1.out];exact Rd.byB)
   have t0:W1.cell? ⟨wr.heap.size,0,none⟩=some (.int .i64 tk):=by rw [← hW1.out];go_simp
   have j5:=kept HB1.out g3 i5;have jz:=kept HB1.out g2 z0';have gs:=HB1.out.size;have gt:=cell_lt t0;have gu:=cell_lt j5;have gv:=cell_lt jz;clear hW1 p0' p1' z0' i5;obtain ⟨⟨xk,xn⟩,hxv⟩:∃ v,Hid (rg.getD kx Vl.nil=v):=⟨_,Lib.hid rfl⟩;have hrx:rd ⟨rg,ap,Vl.nil,Vl.nil⟩ (kx:Int)=⟨xk,xn⟩:=by unfold rd;rw [Int.toNat_natCast];exact hxv.out
   replace hrx:=Lib.hid hrx;have HW1:=Lib.hid (show Below w.heap.size w W1.drew from (HBr.out.trans (HB1.out.mono (by omega))).trans (by exact Rd.byB))
   go_wp2_with fail
   refine Drawn.hd (fun w'=>w'.cell? ⟨w.heap.size,5,none⟩=some (.slice (some ⟨ab,ao,none⟩) args.length acap)∧w'.cell? ⟨ab,ao+q,none⟩=some (.int .i64 kx)∧w'.cell? ⟨wr.heap.size,0,none⟩=some (.int .i64 tk)) (h:=fun hHeld=>?_);refine dT 0 28 ?_;refine dT 1 29 ?_;refine dT 2 30 ?_;refine dT 3 31 ?_;refine dT 4 32 ?_;refine dT 5 33 ?_;refine dT 6 34 ?_;refine dT 7 35 ?_;refine dT 8 36 ?_;refine Drawn.cl 9 (fun K hK=>?_);go_simp
   go_at_call 149
   by_cases qk:xk=tk
   ·subst qk;refine (readOk (HS.out.below HW1.out) kx r1 h1000 ⟨xk,xn⟩ hxv.out xk rfl).mono ?_;rintro e w2 ⟨rfl,hb2⟩;have y0:=kept hb2 (by simp;omega) (show W1.drew.cell? ⟨w.heap.size,5,none⟩=some (.slice (some ⟨ab,ao,none⟩) args.length acap) from j5)
    have y1:=kept hb2 (by simp;omega) (show W1.drew.cell? ⟨ab,ao+q,none⟩=some (.int .i64 kx) from jz)
    have y2:=kept hb2 (by simp;omega) (show W1.drew.cell? ⟨wr.heap.size,0,none⟩=some (.int .i64 xk) from t0)
    have HB2:=Lib.hid (show Below wr.heap.size wr w2 from HB1.out.trans (Below.trans (by exact Rd.byB) (hb2.mono (by have:=HB1.out.size;first | exact this | (simp;omega)))))
    have hs2:wr.heap.size < w2.heap.size:=by have:=hb2.size;simp at this;omega
    have e0:=cell_lt y0;have e1:=cell_lt y1;clear hb2 t0 j5 jz
    go_wp2_with fail
    refine Drawn.bk hK (hS:=by (try dsimp only);exact ⟨y0,y1,y2⟩) (h:=fun hHeld=>?_)
    clear hK K;refine Drawn.cl 10 (fun K hK=>?_);go_simp;refine Drawn.bk hK (h:=fun hHeld=>?_);clear hK K
    have nrow:∀ k,(k < w.heap.size+2∨wr.heap.size≤k)→¬ (Value.slice ua q ucap).ownBlock=some k:=fun k hk e=>by
     have:=World.ownsRow.lt HR.out k e
     omega
    have HR2:=row_keep HR.out (kpB (X:=fun _=>False) (w0:=wr) HB2.out) (fun g _ e=>e);refine wpAnyH_ready (rs:=[11]) (by kernel_rfl) (by simp) ?_
    refine AllReadyH.cons rfl (fun K hK=>?_) AllReadyH.nil;refine step_append_lies _ rfl (.tmp 28) (.tmp 38) 41 rfl (w.heap.size+2) 46 io (.agg #[.int .i64 0,.int .i64 0]) 2 16 Tryz.underlying41 hi' hy0 hy1 hy2 rfl (by decide) (.slice ua q ucap) q (vcells ((args.take q).map (rd ⟨rg,ap,Vl.nil,Vl.nil⟩))) (by simp [Act.eval,Act.put]) (by exact HR2.alloc _) ⟨w2.heap.size,0,none⟩ 1 1 [.int .i64 xk,.int .i64 xn] (by simp [Act.eval,Act.put]) rfl (by exact news_of (by simp)) (by simp [Value.oneCell']) (by decide) (by unfold maxLen;omega) (by omega) (by simp;omega) _ rfl ?_
    intro g2 cap2 w3 hown3 hgrow3 hat3 hlt3
    have K4:Kp (fun k=>(Value.slice ua q ucap).ownBlock=some k) _ w3:=Kp.of_grown hgrow3 (fun k e=>e);have b0:=K4.cell (c:=w.heap.size) (o:=5) (v:=.slice (some ⟨ab,ao,none⟩) args.length acap) (by go_simp) (nrow _ (by omega))
    have b1:=K4.cell (c:=ab) (o:=ao+q) (v:=.int .i64 kx) (by go_simp) (nrow _ (by omega))
    have b2:=K4.cell (c:=wr.heap.size) (o:=0) (v:=.int .i64 xk) (by go_simp) (nrow _ (by omega))
    have hb2':=HB2.out;have KG:=grow_kp (by exact Rd.byB) HR.out hgrow3
    replace KG:=Lib.hid KG;replace hown3:=Lib.hid hown3;clear hgrow3 hat3 K4 HR2;refine Drawn.bk hK (hS:=by (try dsimp only);exact ⟨b0,b1,b2⟩) (h:=fun hHeld=>?_)
    clear hK K;refine dT 12 5 ?_;refine dN ?_
    go_wp2_with fail
    refine ⟨⟨q+1,by go_num,hlt,Lib.hid (HBr.out.trans (KG.out.below (by omega) (fun k hk=>by omega))),by have:=KG.out.size;omega,?_,b0,Lib.hid (BM.out.next KG.out (by omega)),Lib.hid (fun j h1 h2 hj=>?_)⟩,by simp only [intOf];omega⟩
    ·have ee:(args.take (q+1)).map (rd ⟨rg,ap,Vl.nil,Vl.nil⟩)=(args.take q).map (rd ⟨rg,ap,Vl.nil,Vl.nil⟩)++[⟨xk,xn⟩]:=by
      rw [List.take_succ_eq_append_getElem hl2,List.map_append,List.map_cons,List.map_nil,hx.out,hrx.out]
     rw [ee,vcells_append];exact hown3
    ·by_cases hj2:j < q
     ·exact HALL.out j h1 h2 hj2
     ·obtain rfl:j=q:=by omega
      rw [hx.out,ht.out,hrx.out]
   ·refine (readBad (HS.out.below HW1.out) kx r1 h1000 ⟨xk,xn⟩ hxv.out tk qk).mono ?_;rintro e w2 ⟨rfl,hb2⟩;have HB2:=Lib.hid (show Below w.heap.size w w2 from HW1.out.trans (hb2.mono HW1.out.size))
    have ha:act=.stop 6 h:=by
     rw [← hact.out];unfold calA;rw [rargs_no m2.params args q hl1 hl2 (by rw [hx.out,ht.out,hrx.out];exact qk)]
    unfold pan;refine And.intro rfl ?_;rw [ha];exact ⟨Pan.one _,((Gr.of_below HB2.out).lft (HS.out.below HB2.out)).stop⟩
  ·obtain rfl:q=np:=by omega
   have hqn:¬ (q:Int) < m2.params.length:=by rw [← hnp.out];omega
   have etk:args.take q=args:=by rw [← hlan.out,List.take_length]
   have HR':=HR.out;rw [etk] at HR';have elen:(args.map (rd ⟨rg,ap,Vl.nil,Vl.nil⟩)).length=q:=by rw [List.length_map];exact hlan.out
   have HV:=Lib.hid (vsRow (X:=Hpr.fo E L P vs) (l:=args.map (rd ⟨rg,ap,Vl.nil,Vl.nil⟩)) (by rw [elen];exact HR') (fun k hk=>by have:=(HS.out.fo_lo hk).2;omega))
   have hyes:=rargs_yes (fr:=⟨rg,ap,Vl.nil,Vl.nil⟩) m2.params args hla.out (fun j h1 h2=>HALL.out j h1 h2 (by rw [← hnp.out] at h1;exact h1))
   have hvt:=(rargs_ok hf m2.params args _ hty hyes).1;obtain ⟨r,hr⟩:∃ r,Hid (call RM E.f E.input E.fuel g d m2 (args.map (rd ⟨rg,ap,Vl.nil,Vl.nil⟩)) h=r):=⟨_,Lib.hid rfl⟩
   have EA:Hid (act=outC RM m m2 ⟨rg,ap,Vl.nil,Vl.nil⟩ r):=by
    show _=_
    rw [← hact.out,← hr.out];unfold calA;rw [hyes]
   have HIK:∀ W:World,Below w.heap.size w W→VS W (Hpr.fo E L P vs) (.slice ua q ucap) (args.map (rd ⟨rg,ap,Vl.nil,Vl.nil⟩))→Calls Tryz.prog 45 #[.pointer (some ⟨E.hb,0,none⟩),.agg #[.slice pa m2.params.length pcap,.int .i64 m2.ret.kind,.int .i64 m2.ret.cls,.int .i64 m2.stack,.int .i64 m2.locals,.int .i64 m2.regs,.slice ca m2.code.length ccap,.slice ha m2.handlers.length hcap],.slice ua q ucap] W (InvR E L d W r):=fun W hW hV=>by
    have:=HIV.out k (args.map (rd ⟨rg,ap,Vl.nil,Vl.nil⟩)) h hk HO rfl hvt (by rw [hm2,List.length_map];exact hla.out) L W _ _ (Hpr.fo E L P vs) (HS.out.below hW).H (by rw [hm2];exact HVM.out.mono (hW.mono hB) (Nat.le_refl _)) hV (fun _ e=>.inl e)
    rw [hm2,hr.out] at this;exact this
   replace HIK:=Lib.hid HIK;have z0:=kept HBr.out hcb c0;have hcw:=cell_lt z0;have b0:=(BM.out 0 (by simp)).1
   have b1:=(BM.out 1 (by simp)).1
   have b2:=(BM.out 2 (by simp)).1
   have b3:=(BM.out 3 (by simp)).1
   have b4:=(BM.out 4 (by simp)).1
   have b5:=(BM.out 5 (by simp)).1
   have b6:=(BM.out 6 (by simp)).1
   have b7:=(BM.out 7 (by simp)).1
   simp only [List.getElem_cons_zero,List.getElem_cons_succ] at b0 b1 b2 b3 b4 b5 b6 b7;have hbw:=cell_lt b0;clear hyes hvt HIV etk HR' elen
   go_wp2_with fail
   refine Drawn.hd (fun w'=>w'.cell? ⟨P.cb,0,none⟩=some (.pointer (some ⟨E.hb,0,none⟩))∧w'.cell? ⟨w.heap.size+1,0,none⟩=some (.slice pa m2.params.length pcap)∧w'.cell? ⟨w.heap.size+1,1,none⟩=some (.int .i64 m2.ret.kind)∧w'.cell? ⟨w.heap.size+1,2,none⟩=some (.int .i64 m2.ret.cls)∧w'.cell? ⟨w.heap.size+1,3,none⟩=some (.int .i64 m2.stack)∧w'.cell? ⟨w.heap.size+1,4,none⟩=some (.int .i64 m2.locals)∧w'.cell? ⟨w.heap.size+1,5,none⟩=some (.int .i64 m2.regs)∧w'.cell? ⟨w.heap.size+1,6,none⟩=some (.slice ca m2.code.length ccap)∧w'.cell? ⟨w.heap.size+1,7,none⟩=some (.slice ha m2.handlers.length hcap)) (h:=fun hHeld=>?_);refine dT 0 41 ?_;refine dT 1 42 ?_;refine dT 2 43 ?_;refine dT 3 44 ?_;refine dT 4 45 ?_;refine dT 5 46 ?_;refine dT 6 47 ?_;refine Drawn.cl 7 (fun K hK=>?_);go_simp
   go_at_call 45
   have HW2:=Lib.hid (show Below w.heap.size w wr.drew from HBr.out.trans (by exact Rd.byB))
   refine (HIK.out _ HW2.out (HV.out.next (Kp.of_below (X:=fun _=>False) (w':=wr.drew) (by exact Rd.byB) (Nat.le_refl _)) (fun _ _ e=>e.elim) (fun _ _ e=>e))).mono ?_
   rintro e w5 R;have SQ:=HS.out.below HW2.out
   cases r with
   | thrown o h2 =>
    obtain ⟨⟨older,hol,rfl⟩,A⟩:=R;obtain ⟨L5,G5,S5⟩:=Gr.of_heap A SQ;refine And.intro rfl ?_;rw [EA.out];exact ⟨⟨older,hol,rfl⟩,((Gr.of_below HW2.out).trans G5).lft S5⟩
   | stop c2 h2 =>
    obtain ⟨⟨older,hol,rfl⟩,A⟩:=R;obtain ⟨L5,G5,S5⟩:=Gr.of_heap A SQ;refine And.intro rfl ?_;rw [EA.out];exact ⟨⟨older,hol,rfl⟩,(((Gr.of_below HW2.out).trans G5).lft S5).stop⟩
   | ok v h2 =>
    obtain ⟨vk,vn⟩:=v;obtain ⟨rfl,A⟩:=R;obtain ⟨L5,G5,S5⟩:=Gr.of_heap A SQ;have y9:w5.cell? ⟨P.cb,0,none⟩=some (.pointer (some ⟨E.hb,0,none⟩)):=S5.c0;have y0:=G5.cell (b:=w.heap.size+1) (o:=0) (v:=.slice pa m2.params.length pcap) nf1 (by go_simp)
    have y1:=G5.cell (b:=w.heap.size+1) (o:=1) (v:=.int .i64 m2.ret.kind) nf1 (by go_simp)
    have y2:=G5.cell (b:=w.heap.size+1) (o:=2) (v:=.int .i64 m2.ret.cls) nf1 (by go_simp)
    have y3:=G5.cell (b:=w.heap.size+1) (o:=3) (v:=.int .i64 m2.stack) nf1 (by go_simp)
    have y4:=G5.cell (b:=w.heap.size+1) (o:=4) (v:=.int .i64 m2.locals) nf1 (by go_simp)
    have y5:=G5.cell (b:=w.heap.size+1) (o:=5) (v:=.int .i64 m2.regs) nf1 (by go_simp)
    have y6:=G5.cell (b:=w.heap.size+1) (o:=6) (v:=.slice ca m2.code.length ccap) nf1 (by go_simp)
    have y7:=G5.cell (b:=w.heap.size+1) (o:=7) (v:=.slice ha m2.handlers.length hcap) nf1 (by go_simp)
    have c11:w5.cell? ⟨P.cb,11,none⟩=some (.int .i64 0):=S5.c11;have c12:w5.cell? ⟨P.cb,12,none⟩=some (.int .i64 0):=S5.c12;have f11:=S5.fz 11 (by decide)
    have f12:=S5.fz 12 (by decide)
    have hcb5:=S5.cbw;have hb5:=cell_lt y0;have hne:w.heap.size+1≠P.cb:=by omega
    have hne2:=hne.symm;have G6:=Lib.hid ((Gr.of_below HW2.out).trans G5);replace S5:=Lib.hid S5;clear A G5 SQ;unfold vl
    go_wp2_with fail
    refine Drawn.bk hK (h:=fun hHeld=>?_);clear hK K;refine dT 8 49 ?_;refine dT 9 50 ?_;refine Drawn.cl 10 (fun K hK=>?_);go_simp;refine Drawn.bk hK (h:=fun hHeld=>?_);clear hK K;refine dN ?_
    go_wp2_with fail
    go_end0
    rw [EA.out];exact ⟨rfl,G6.out.comp (S5.out.setGiven ⟨vk,vn⟩)⟩
end
end Hpr
end Go.Proofs.YtncmhenfgbcihabGreat
