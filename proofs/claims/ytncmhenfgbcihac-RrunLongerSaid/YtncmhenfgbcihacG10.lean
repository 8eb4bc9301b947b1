/- Parts of the proof: LookP, FormH, FormG, LookY, MayL, Yt, Lg, RunL, Long, Lo, Yu. -/
import Derived.Test.YtncmhenfgbcihacG09
import Derived.Test.YtncmhenfgbcihacG07
import Derived.Test.YtncmhenfgbcihacG02
import Derived.Test.YtncmhenfgbcihacG01
import Derived.BigQuiet
import Derived.Deep.QuietTactic
set_option linter.unusedSimpArgs false
set_option linter.unusedVariables false
set_option maxHeartbeats 8000000
namespace Go.Proofs.Ytncmhenfgbcihac
open Go.RowKit
namespace Look
open Num Rd D HierW FormW
theorem more (f:Fi) (m:Me) (op a b c n:Int) (args:List Int) (ok:Bool) (lb:Nat) (ca:Option Addr) (ccap:Nat) (vm vp:Value) (da:Option Addr) (dcap:Nat) (vh:Value) (aa:Option Addr) (acap:Nat) (w:World)
  (h:Lk w lb (.slice ca f.classes.length ccap) vm vp (.slice da m.code.length dcap) vh m ok) (hF:Fit f m f.classes.length ccap dcap) (oks:Ok a∧Ok b∧Ok c∧Ok n) (ha:args.length≤acap∧acap≤9223372036854775807) (okk:Ok m.ret.kind)
  (B0:Nat) (hB:B0≤lb) (hcl:Sl 2 ECls w B0 (.slice ca f.classes.length ccap) f.classes) (hms:Sl 8 EMe w B0 vm f.methods) (hargs:Sl 1 EInt w B0 (.slice aa args.length acap) args)
  (hop:¬ (1≤op∧op≤12)∧op≠21∧op≠22) :
  Calls Try.prog 64 #[.pointer (some ⟨lb,0,none⟩),.agg #[.int .i64 op,.int .i64 a,.int .i64 b,.int .i64 c,.int .i64 n,.slice aa args.length acap]] w
   (Got w lb (.slice ca f.classes.length ccap) vm vp (.slice da m.code.length dcap) vh m (moreX f m ok ⟨op,a,b,c,n,args⟩)):=by
 by_cases h13:op=13
 ·subst h13;exact more13 f m a b c n args ok lb ca ccap vm vp da dcap vh aa acap w h hF oks ha
 by_cases h16:op=16
 ·subst h16;exact more16 f m a b c n args ok lb ca ccap vm vp da dcap vh aa acap w h hF oks ha
 by_cases h17:op=17
 ·subst h17;exact more17 f m a b c n args ok lb ca ccap vm vp da dcap vh aa acap w h hF oks ha
 by_cases h19:op=19
 ·subst h19;exact more19 f m a b c n args ok lb ca ccap vm vp da dcap vh aa acap w h hF oks ha
 by_cases h23:op=23
 ·subst h23;exact more23 f m a b c n args ok lb ca ccap vm vp da dcap vh aa acap w h hF oks ha
 by_cases h24:op=24
 ·subst h24;exact more24 f m a b c n args ok lb ca ccap vm vp da dcap vh aa acap w h hF oks ha
 by_cases h14:op=14
 ·subst h14;exact more14 f m a b c n args ok lb ca ccap vm vp da dcap vh aa acap w h hF oks ha B0 hB hcl
 by_cases h15:op=15
 ·subst h15;exact more15 f m a b c n args ok lb ca ccap vm vp da dcap vh aa acap w h hF oks ha B0 hB hcl
 by_cases h18:op=18
 ·subst h18;exact more18 f m a b c n args ok lb ca ccap vm vp da dcap vh aa acap w h hF oks ha B0 hB hms hargs
 by_cases h20:op=20
 ·subst h20;exact more20 f m a b c n args ok lb ca ccap vm vp da dcap vh aa acap w h hF oks ha okk
 exact moreNo f m op a b c n args ok lb ca ccap vm vp da dcap vh aa acap w h hF oks ha (by omega)
set_option maxRecDepth 100000 in
theorem insD (f:Fi) (m:Me) (op a b c n:Int) (args:List Int) (lb:Nat) (ca:Option Addr) (ccap:Nat) (vm vp:Value) (da:Option Addr) (dcap:Nat) (vh:Value) (aa:Option Addr) (acap:Nat) (w:World)
  (h:Lk w lb (.slice ca f.classes.length ccap) vm vp (.slice da m.code.length dcap) vh m true) (hF:Fit f m f.classes.length ccap dcap) (oks:Ok a∧Ok b∧Ok c∧Ok n) (ha:args.length≤acap∧acap≤9223372036854775807) (okk:Ok m.ret.kind)
  (B0:Nat) (hB:B0≤lb) (hcl:Sl 2 ECls w B0 (.slice ca f.classes.length ccap) f.classes) (hms:Sl 8 EMe w B0 vm f.methods) (hargs:Sl 1 EInt w B0 (.slice aa args.length acap) args) (hop:¬ (1≤op∧op≤12)∧op≠21∧op≠22∧op≠18) :
  Calls Try.prog 33 #[.pointer (some ⟨lb,0,none⟩),.agg #[.int .i64 op,.int .i64 a,.int .i64 b,.int .i64 c,.int .i64 n,.slice aa args.length acap]] w
   fun e w'=>e=.returned (.tuple #[])∧After w lb (.slice ca f.classes.length ccap) vm vp (.slice da m.code.length dcap) vh m (Rform.ins f m ⟨op,a,b,c,n,args⟩) w':=by
 have hF2:=Lib.hid hF
 have oks2:=Lib.hid oks
 have ha2:=Lib.hid ha
 have okk2:=Lib.hid okk
 obtain ⟨ha3,ha4⟩:=ha
 have hlt:=h.lt
 have hne:w.heap.size≠lb:=by omega
 have hL:=Lib.hid (h.next (Below.alloc (Below.refl _ _) (Nat.le_refl _) (.cells #[.int .i64 op,.int .i64 a,.int .i64 b,.int .i64 c,.int .i64 n,.slice aa args.length acap] 79)) h.lt)
 have hT:Keep w.heap.size lb w (w.alloc (.cells #[.int .i64 op,.int .i64 a,.int .i64 b,.int .i64 c,.int .i64 n,.slice aa args.length acap] 79)):=Keep.alloc (Keep.refl _ _ _) (Nat.le_refl _) _
 have hTs:=hT.size
 have hbl:=hL.out.lt
 have x0:(w.alloc (.cells #[.int .i64 op,.int .i64 a,.int .i64 b,.int .i64 c,.int .i64 n,.slice aa args.length acap] 79)).cell? ⟨w.heap.size,0,none⟩=some (.int .i64 op):=by go_simp
 have x1:(w.alloc (.cells #[.int .i64 op,.int .i64 a,.int .i64 b,.int .i64 c,.int .i64 n,.slice aa args.length acap] 79)).cell? ⟨w.heap.size,1,none⟩=some (.int .i64 a):=by go_simp
 have x2:(w.alloc (.cells #[.int .i64 op,.int .i64 a,.int .i64 b,.int .i64 c,.int .i64 n,.slice aa args.length acap] 79)).cell? ⟨w.heap.size,2,none⟩=some (.int .i64 b):=by go_simp
 have x3:(w.alloc (.cells #[.int .i64 op,.int .i64 a,.int .i64 b,.int .i64 c,.int .i64 n,.slice aa args.length acap] 79)).cell? ⟨w.heap.size,3,none⟩=some (.int .i64 c):=by go_simp
 have x4:(w.alloc (.cells #[.int .i64 op,.int .i64 a,.int .i64 b,.int .i64 c,.int .i64 n,.slice aa args.length acap] 79)).cell? ⟨w.heap.size,4,none⟩=some (.int .i64 n):=by go_simp
 have x5:(w.alloc (.cells #[.int .i64 op,.int .i64 a,.int .i64 b,.int .i64 c,.int .i64 n,.slice aa args.length acap] 79)).cell? ⟨w.heap.size,5,none⟩=some (.slice aa args.length acap):=by go_simp
 clear h
 have n1:(op==1)=false:=by simp;omega
 have n2:(op==2)=false:=by simp;omega
 have n3:(op==3)=false:=by simp;omega
 have n4:(op==4)=false:=by simp;omega
 have n5:(op==5)=false:=by simp;omega
 have n6:(op==6)=false:=by simp;omega
 have n7:(op==7)=false:=by simp;omega
 have n8:(op==8)=false:=by simp;omega
 have n9:(op==9)=false:=by simp;omega
 have n10:(op==10)=false:=by simp;omega
 have n11:(op==11)=false:=by simp;omega
 have n12:(op==12)=false:=by simp;omega
 have n21:(op==21)=false:=by simp;omega
 have n22:(op==22)=false:=by simp;omega
 have n18:(op==18)=false:=by simp;omega
 have hop2:=Lib.hid (show ¬ (1≤op∧op≤12)∧op≠21∧op≠22 from ⟨hop.1,hop.2.1,hop.2.2.1⟩)
 have hop18:=Lib.hid hop.2.2.2
 clear hop
 have hcl2:=Lib.hid hcl
 have hms2:=Lib.hid hms
 have hargs2:=Lib.hid hargs
 clear hcl hms hargs okk oks hF
 go_enter Try.func33,Try.ntmps33
 go_wp2_with fail
 refine (mustA (by first | rfl | simp) hL.out).mono ?_
 rintro e w1 ⟨rfl,hA,hK⟩
 replace hL:=Lib.hid hA;clear hA;replace hT:=hT.trans (hK.mono hTs);replace hTs:=Nat.le_trans hTs hK.size;replace x0:=hK.cell (lt_cell x0) hne x0;replace x1:=hK.cell (lt_cell x1) hne x1;replace x2:=hK.cell (lt_cell x2) hne x2;replace x3:=hK.cell (lt_cell x3) hne x3;replace x4:=hK.cell (lt_cell x4) hne x4;replace x5:=hK.cell (lt_cell x5) hne x5;replace hbl:=hL.out.lt;clear hK
 obtain ⟨q,hq⟩:∃ q,Hid ((true && ((args.length:Int)==0))=q):=⟨_,rfl⟩
 rw [hq.out] at hL
 go_wp2_with fail
 have hTb:Below B0 w w1:=hT.below (by omega) hB
 refine (more f m op a b c n args q lb ca ccap vm vp da dcap vh aa acap w1 hL.out hF2.out oks2.out ha2.out okk2.out B0 hB (Sl.mono mCls hcl2.out hTb (Nat.le_refl _)) (Sl.mono mMe hms2.out hTb (Nat.le_refl _)) (Sl.mono mInt hargs2.out hTb (Nat.le_refl _)) hop2.out).mono ?_
 rintro e w2 ⟨v,q2,rfl,⟨hA,hK⟩,heq⟩
 have hEq:=Lib.hid heq
 clear heq
 replace hL:=Lib.hid hA;clear hA;replace hT:=hT.trans (hK.mono hTs);replace hTs:=Nat.le_trans hTs hK.size;replace x0:=hK.cell (lt_cell x0) hne x0;replace x1:=hK.cell (lt_cell x1) hne x1;replace x2:=hK.cell (lt_cell x2) hne x2;replace x3:=hK.cell (lt_cell x3) hne x3;replace x4:=hK.cell (lt_cell x4) hne x4;replace x5:=hK.cell (lt_cell x5) hne x5;replace hbl:=hL.out.lt;clear hK
 go_wp2_with fail
 refine (mustA (by first | rfl | simp) hL.out).mono ?_
 rintro e w3 ⟨rfl,hA,hK⟩
 replace hL:=Lib.hid hA;clear hA;replace hT:=hT.trans (hK.mono hTs);replace hTs:=Nat.le_trans hTs hK.size;replace x0:=hK.cell (lt_cell x0) hne x0;replace x1:=hK.cell (lt_cell x1) hne x1;replace x2:=hK.cell (lt_cell x2) hne x2;replace x3:=hK.cell (lt_cell x3) hne x3;replace x4:=hK.cell (lt_cell x4) hne x4;replace x5:=hK.cell (lt_cell x5) hne x5;replace hbl:=hL.out.lt;clear hK
 go_wp2_with fail
 go_end0
 refine ⟨rfl,after_eq hL.out hT ?_⟩
 rw [show (v==0)=decide (v=0) from rfl,hEq.out,← hq.out]
 unfold moreX Rform.ins
 have e0:((args.length:Int)==0)=decide (args.length=0):=by rw [Bool.eq_iff_iff];simp
 rw [e0,decide_eq_false hop18.out]
 simp only [Bool.true_and,Bool.false_or,Bool.and_assoc]
set_option maxRecDepth 100000 in
theorem insC (f:Fi) (m:Me) (a b c n:Int) (args:List Int) (lb:Nat) (ca:Option Addr) (ccap:Nat) (vm vp:Value) (da:Option Addr) (dcap:Nat) (vh:Value) (aa:Option Addr) (acap:Nat) (w:World)
  (h:Lk w lb (.slice ca f.classes.length ccap) vm vp (.slice da m.code.length dcap) vh m true) (hF:Fit f m f.classes.length ccap dcap) (oks:Ok a∧Ok b∧Ok c∧Ok n) (ha:args.length≤acap∧acap≤9223372036854775807) (okk:Ok m.ret.kind)
  (B0:Nat) (hB:B0≤lb) (hcl:Sl 2 ECls w B0 (.slice ca f.classes.length ccap) f.classes) (hms:Sl 8 EMe w B0 vm f.methods) (hargs:Sl 1 EInt w B0 (.slice aa args.length acap) args) :
  Calls Try.prog 33 #[.pointer (some ⟨lb,0,none⟩),.agg #[.int .i64 18,.int .i64 a,.int .i64 b,.int .i64 c,.int .i64 n,.slice aa args.length acap]] w
   fun e w'=>e=.returned (.tuple #[])∧After w lb (.slice ca f.classes.length ccap) vm vp (.slice da m.code.length dcap) vh m (Rform.ins f m ⟨18,a,b,c,n,args⟩) w':=by
 have hF2:=Lib.hid hF
 have oks2:=Lib.hid oks
 have ha2:=Lib.hid ha
 have okk2:=Lib.hid okk
 obtain ⟨ha3,ha4⟩:=ha
 have hlt:=h.lt
 have hne:w.heap.size≠lb:=by omega
 have hL:=Lib.hid (h.next (Below.alloc (Below.refl _ _) (Nat.le_refl _) (.cells #[.int .i64 18,.int .i64 a,.int .i64 b,.int .i64 c,.int .i64 n,.slice aa args.length acap] 79)) h.lt)
 have hT:Keep w.heap.size lb w (w.alloc (.cells #[.int .i64 18,.int .i64 a,.int .i64 b,.int .i64 c,.int .i64 n,.slice aa args.length acap] 79)):=Keep.alloc (Keep.refl _ _ _) (Nat.le_refl _) _
 have hTs:=hT.size
 have hbl:=hL.out.lt
 have x0:(w.alloc (.cells #[.int .i64 18,.int .i64 a,.int .i64 b,.int .i64 c,.int .i64 n,.slice aa args.length acap] 79)).cell? ⟨w.heap.size,0,none⟩=some (.int .i64 18):=by go_simp
 have x1:(w.alloc (.cells #[.int .i64 18,.int .i64 a,.int .i64 b,.int .i64 c,.int .i64 n,.slice aa args.length acap] 79)).cell? ⟨w.heap.size,1,none⟩=some (.int .i64 a):=by go_simp
 have x2:(w.alloc (.cells #[.int .i64 18,.int .i64 a,.int .i64 b,.int .i64 c,.int .i64 n,.slice aa args.length acap] 79)).cell? ⟨w.heap.size,2,none⟩=some (.int .i64 b):=by go_simp
 have x3:(w.alloc (.cells #[.int .i64 18,.int .i64 a,.int .i64 b,.int .i64 c,.int .i64 n,.slice aa args.length acap] 79)).cell? ⟨w.heap.size,3,none⟩=some (.int .i64 c):=by go_simp
 have x4:(w.alloc (.cells #[.int .i64 18,.int .i64 a,.int .i64 b,.int .i64 c,.int .i64 n,.slice aa args.length acap] 79)).cell? ⟨w.heap.size,4,none⟩=some (.int .i64 n):=by go_simp
 have x5:(w.alloc (.cells #[.int .i64 18,.int .i64 a,.int .i64 b,.int .i64 c,.int .i64 n,.slice aa args.length acap] 79)).cell? ⟨w.heap.size,5,none⟩=some (.slice aa args.length acap):=by go_simp
 clear h
 have hop2:=Lib.hid (show ¬ (1≤(18:Int)∧(18:Int)≤12)∧(18:Int)≠21∧(18:Int)≠22 from by omega)
 have hcl2:=Lib.hid hcl
 have hms2:=Lib.hid hms
 have hargs2:=Lib.hid hargs
 clear hcl hms hargs okk oks hF
 go_enter Try.func33,Try.ntmps33
 go_wp2_with fail
 refine (mustA (by first | rfl | simp) hL.out).mono ?_
 rintro e w1 ⟨rfl,hA,hK⟩
 replace hL:=Lib.hid hA;clear hA;replace hT:=hT.trans (hK.mono hTs);replace hTs:=Nat.le_trans hTs hK.size;replace x0:=hK.cell (lt_cell x0) hne x0;replace x1:=hK.cell (lt_cell x1) hne x1;replace x2:=hK.cell (lt_cell x2) hne x2;replace x3:=hK.cell (lt_cell x3) hne x3;replace x4:=hK.cell (lt_cell x4) hne x4;replace x5:=hK.cell (lt_cell x5) hne x5;replace hbl:=hL.out.lt;clear hK
 obtain ⟨q,hq⟩:∃ q,Hid ((true && true)=q):=⟨_,rfl⟩
 rw [hq.out] at hL
 go_wp2_with fail
 have hTb:Below B0 w w1:=hT.below (by omega) hB
 refine (more f m 18 a b c n args q lb ca ccap vm vp da dcap vh aa acap w1 hL.out hF2.out oks2.out ha2.out okk2.out B0 hB (Sl.mono mCls hcl2.out hTb (Nat.le_refl _)) (Sl.mono mMe hms2.out hTb (Nat.le_refl _)) (Sl.mono mInt hargs2.out hTb (Nat.le_refl _)) hop2.out).mono ?_
 rintro e w2 ⟨v,q2,rfl,⟨hA,hK⟩,heq⟩
 have hEq:=Lib.hid heq
 clear heq
 replace hL:=Lib.hid hA;clear hA;replace hT:=hT.trans (hK.mono hTs);replace hTs:=Nat.le_trans hTs hK.size;replace x0:=hK.cell (lt_cell x0) hne x0;replace x1:=hK.cell (lt_cell x1) hne x1;replace x2:=hK.cell (lt_cell x2) hne x2;replace x3:=hK.cell (lt_cell x3) hne x3;replace x4:=hK.cell (lt_cell x4) hne x4;replace x5:=hK.cell (lt_cell x5) hne x5;replace hbl:=hL.out.lt;clear hK
 go_wp2_with fail
 refine (mustA (by first | rfl | simp) hL.out).mono ?_
 rintro e w3 ⟨rfl,hA,hK⟩
 replace hL:=Lib.hid hA;clear hA;replace hT:=hT.trans (hK.mono hTs);replace hTs:=Nat.le_trans hTs hK.size;replace x0:=hK.cell (lt_cell x0) hne x0;replace x1:=hK.cell (lt_cell x1) hne x1;replace x2:=hK.cell (lt_cell x2) hne x2;replace x3:=hK.cell (lt_cell x3) hne x3;replace x4:=hK.cell (lt_cell x4) hne x4;replace x5:=hK.cell (lt_cell x5) hne x5;replace hbl:=hL.out.lt;clear hK
 go_wp2_with fail
 go_end0
 refine ⟨rfl,after_eq hL.out hT ?_⟩
 rw [show (v==0)=decide (v=0) from rfl,hEq.out,← hq.out]
 unfold moreX Rform.ins
 simp only [Bool.true_and,decide_true,Bool.true_or]
theorem ins (f:Fi) (m:Me) (i:Ins) (vi:Value) (lb:Nat) (ca:Option Addr) (ccap:Nat) (vm vp:Value) (da:Option Addr) (dcap:Nat) (vh:Value) (w:World)
  (h:Lk w lb (.slice ca f.classes.length ccap) vm vp (.slice da m.code.length dcap) vh m true) (hF:Fit f m f.classes.length ccap dcap) (okk:Ok m.ret.kind)
  (B0:Nat) (hB:B0≤lb) (hcl:Sl 2 ECls w B0 (.slice ca f.classes.length ccap) f.classes) (hms:Sl 8 EMe w B0 vm f.methods) (hi:VIns w B0 vi i) :
  Calls Try.prog 33 #[.pointer (some ⟨lb,0,none⟩),vi] w
   fun e w'=>e=.returned (.tuple #[])∧After w lb (.slice ca f.classes.length ccap) vm vp (.slice da m.code.length dcap) vh m (Rform.ins f m i) w':=by
 obtain ⟨op,a,b,c,n,args⟩:=i
 obtain ⟨va,rfl,⟨oop,oa,ob,oc,on⟩,hargs⟩:=hi
 have hargs2:=hargs
 obtain ⟨aa,acap,rfl,alc,acc,_⟩:=hargs2
 simp only at *
 by_cases h1:op=1
 ·subst h1;exact ins1 f m a b c n args lb ca ccap vm vp da dcap vh aa acap w h hF ⟨oa,ob,oc,on⟩ ⟨alc,acc⟩
 by_cases h2:op=2
 ·subst h2;exact ins2 f m a b c n args lb ca ccap vm vp da dcap vh aa acap w h hF ⟨oa,ob,oc,on⟩ ⟨alc,acc⟩
 by_cases h3:op=3
 ·subst h3;exact ins3 f m a b c n args lb ca ccap vm vp da dcap vh aa acap w h hF ⟨oa,ob,oc,on⟩ ⟨alc,acc⟩
 by_cases h4:op=4
 ·subst h4;exact ins4 f m a b c n args lb ca ccap vm vp da dcap vh aa acap w h hF ⟨oa,ob,oc,on⟩ ⟨alc,acc⟩
 by_cases h5:op=5
 ·subst h5;exact ins5 f m a b c n args lb ca ccap vm vp da dcap vh aa acap w h hF ⟨oa,ob,oc,on⟩ ⟨alc,acc⟩
 by_cases h6:op=6
 ·subst h6;exact ins6 f m a b c n args lb ca ccap vm vp da dcap vh aa acap w h hF ⟨oa,ob,oc,on⟩ ⟨alc,acc⟩
 by_cases h7:op=7
 ·subst h7;exact ins7 f m a b c n args lb ca ccap vm vp da dcap vh aa acap w h hF ⟨oa,ob,oc,on⟩ ⟨alc,acc⟩
 by_cases h8:op=8
 ·subst h8;exact ins8 f m a b c n args lb ca ccap vm vp da dcap vh aa acap w h hF ⟨oa,ob,oc,on⟩ ⟨alc,acc⟩
 by_cases h9:op=9
 ·subst h9;exact ins9 f m a b c n args lb ca ccap vm vp da dcap vh aa acap w h hF ⟨oa,ob,oc,on⟩ ⟨alc,acc⟩
 by_cases h10:op=10
 ·subst h10;exact ins10 f m a b c n args lb ca ccap vm vp da dcap vh aa acap w h hF ⟨oa,ob,oc,on⟩ ⟨alc,acc⟩
 by_cases h11:op=11
 ·subst h11;exact ins11 f m a b c n args lb ca ccap vm vp da dcap vh aa acap w h hF ⟨oa,ob,oc,on⟩ ⟨alc,acc⟩
 by_cases h12:op=12
 ·subst h12;exact ins12 f m a b c n args lb ca ccap vm vp da dcap vh aa acap w h hF ⟨oa,ob,oc,on⟩ ⟨alc,acc⟩
 by_cases h21:op=21
 ·subst h21;exact ins21 f m a b c n args lb ca ccap vm vp da dcap vh aa acap w h hF ⟨oa,ob,oc,on⟩ ⟨alc,acc⟩
 by_cases h22:op=22
 ·subst h22;exact ins22 f m a b c n args lb ca ccap vm vp da dcap vh aa acap w h hF ⟨oa,ob,oc,on⟩ ⟨alc,acc⟩
 by_cases h18:op=18
 ·subst h18;exact insC f m a b c n args lb ca ccap vm vp da dcap vh aa acap w h hF ⟨oa,ob,oc,on⟩ ⟨alc,acc⟩ okk B0 hB hcl hms hargs
 exact insD f m op a b c n args lb ca ccap vm vp da dcap vh aa acap w h hF ⟨oa,ob,oc,on⟩ ⟨alc,acc⟩ okk B0 hB hcl hms hargs (by omega)
end Look
namespace FormW
open Num Rd D HierW
set_option maxRecDepth 100000 in
theorem head (f:Fi) (m:Me) (most:Int) (vf vm:Value) (w:World) (hf:VFi w w.heap.size vf f) (hm:VMe w w.heap.size vm m) (hmost:0≤most∧most≤100000) :
  Calls Try.prog 31 #[vf,vm,.int .i64 most] w fun e w'=>e=.returned (.bool (Form.head f.classes.length m most))∧Below w.heap.size w w':=by
 obtain ⟨vc,vme,rfl,⟨ca,ccap,rfl,clc,ccc,_⟩,⟨ma,mcap,rfl,mlc,mcc,_⟩⟩:=hf
 obtain ⟨vp,vcd,vh,rfl,⟨ok1,ok2,_,_,_⟩,⟨pa,pcap,rfl,plc,pcc,pel⟩,⟨da,dcap,rfl,dlc,dcc,_⟩,⟨ha,hcap,rfl,hlc,hcc,hel⟩⟩:=hm
 obtain ⟨most1,most2⟩:=hmost
 unfold Ok at ok1 ok2
 obtain ⟨rk,hrk⟩:∃ rk,Hid (m.ret.kind=rk):=⟨_,rfl⟩
 obtain ⟨rc,hrc⟩:∃ rc,Hid (m.ret.cls=rc):=⟨_,rfl⟩
 rw [hrk.out] at ok1
 rw [hrc.out] at ok2
 rw [hrk.out,hrc.out]
 go_enter Try.func31,Try.ntmps31
 go_wp2_with fail
 refine name_world (fun W=>Below w.heap.size w W∧w.heap.size+2≤W.heap.size ∧
  (W.cell? ⟨w.heap.size,0,none⟩=some (.slice ca f.classes.length ccap)∧W.cell? ⟨w.heap.size,1,none⟩=some (.slice ma f.methods.length mcap)) ∧
  W.cell? ⟨w.heap.size+1,0,none⟩=some (.slice pa m.params.length pcap)∧W.cell? ⟨w.heap.size+1,1,none⟩=some (.int .i64 rk)∧W.cell? ⟨w.heap.size+1,2,none⟩=some (.int .i64 rc)∧W.cell? ⟨w.heap.size+1,6,none⟩=some (.slice da m.code.length dcap)∧W.cell? ⟨w.heap.size+1,7,none⟩=some (.slice ha m.handlers.length hcap))
  ?_ ?_
 ·refine ⟨Rd.byB,?_,⟨?_,?_⟩,?_,?_,?_,?_,?_⟩
  all_goals go_simp
 rintro W ⟨hbw,hsz,⟨f1,f2⟩,m0,m1,m2,m6,m7⟩
 have hbs:=hbw.size
 have hbW:=Lib.hid hbw
 go_loopw [14] (fun i wr=>∃ k:Nat,k≤m.params.length∧i=.int .i64 k∧Below W.heap.size W wr∧Hid (∀ j (h:j < m.params.length),j < k→Hier.ty f.classes.length m.params[j]=true)) (fun i _=>m.params.length - (intOf i).toNat)
 case atStart=>exact ⟨0,by omega,rfl,Below.refl _ _,fun j _ h=>absurd h (by omega)⟩
 case round =>
  obtain ⟨k,hk,rfl,hr,hall⟩:=hrel
  have hrs:=hr.size
  have n1:w.heap.size < wr.heap.size:=by omega
  have n2:w.heap.size+1 < wr.heap.size:=by omega
  have a1:=kept hr (by omega) f1
  have a2:=kept hr (by omega) m0
  have a3:=kept hr (by omega) m1
  have a4:=kept hr (by omega) m2
  have a5:=kept hr (by omega) m6
  have a6:=kept hr (by omega) m7
  by_cases hlt:k < m.params.length
  ·obtain ⟨b,o,rfl,hb,he⟩:=pel k hlt
   have hyes:=Lib.hid (Form.all_step (p:=Hier.ty f.classes.length) hall.out hlt)
   have hno:=Lib.hid (Form.head_param (nc:=f.classes.length) (most:=most) hlt)
   obtain ⟨t,ht⟩:=at_of hlt
   rw [ht.out] at he hyes hno
   obtain ⟨g1,g2,_,_⟩:=he
   have hwr:Below w.heap.size w wr:=hbw.trans (hr.mono hbs)
   have k1:=kept hwr hb g1
   have k2:=kept hwr hb g2
   clear pel g1 g2 hel f1 f2 m0 m1 m2 m6 m7 a2 a3 a4 a5 a6
   obtain ⟨tb,htb⟩:∃ tb,Hid (Hier.ty f.classes.length t=tb):=⟨_,rfl⟩
   cases tb
   ·go_wp2_with (go_at_call 58;refine (type _ _ _ t _).mono ?_;rw [htb.out];rintro e w1 ⟨rfl,hb1⟩)
    go_ret
    exact ⟨ret_bool (hno.out htb.out).symm,(hwr.alloc (by omega) _).trans (hb1.mono (by simp;omega))⟩
   ·go_wp2_with (go_at_call 58;refine (type _ _ _ t _).mono ?_;rw [htb.out];rintro e w1 ⟨rfl,hb1⟩)
    go_roundw
    case rel=>exact ⟨k+1,by omega,by go_num,(hr.alloc (by omega) _).trans (hb1.mono (by simp;omega)),hyes.out htb.out⟩
    case measure=>simp [intOf];omega
  ·obtain ⟨wo,rfl⟩:∃ wo:World,wo=wr:=⟨_,rfl⟩
   have hpar:=Lib.hid (Form.all_of (fun j hj=>hall.out j hj (by omega)))
   have hwo:Below w.heap.size w wo:=hbw.trans (hr.mono hbs)
   clear pel hall f1 f2 m0 m1 m2 m6 m7
   go_wp2
   go_loopw [27] (fun i wr=>∃ k:Nat,k≤m.handlers.length∧i=.int .i64 k∧Below wo.heap.size wo wr∧Hid (∀ j (h:j < m.handlers.length),j < k→Form.hd f.classes.length m.code.length m.handlers[j]=true)) (fun i _=>m.handlers.length - (intOf i).toNat)
   case atStart=>exact ⟨0,by omega,rfl,Below.refl _ _,fun j _ h=>absurd h (by omega)⟩
   case round =>
    obtain ⟨k,hk,rfl,hq,hall⟩:=hrel
    have hqs:=hq.size
    have n3:w.heap.size < wr.heap.size:=by omega
    have n4:w.heap.size+1 < wr.heap.size:=by omega
    have c1:=kept hq (by omega) a1
    have c2:=kept hq (by omega) a2
    have c3:=kept hq (by omega) a3
    have c4:=kept hq (by omega) a4
    have c5:=kept hq (by omega) a5
    have c6:=kept hq (by omega) a6
    clear a1 a2 a3 a4 a5 a6
    have hwr:Below w.heap.size w wr:=hwo.trans (hq.mono (by omega))
    by_cases hlt:k < m.handlers.length
    ·obtain ⟨b,o,rfl,hb,he⟩:=hel k hlt
     have hyes:=Lib.hid (Form.all_step (p:=Form.hd f.classes.length m.code.length) hall.out hlt)
     have hno:=Lib.hid (Form.head_hd (nc:=f.classes.length) (most:=most) hlt)
     obtain ⟨t,ht⟩:=at_of hlt
     rw [ht.out] at he hyes hno
     obtain ⟨g1,g2,g3,g4,_⟩:=he
     have k1:=kept hwr hb g1
     have k2:=kept hwr hb g2
     have k3:=kept hwr hb g3
     have k4:=kept hwr hb g4
     obtain ⟨lo,hi,go,cl⟩:=t
     simp only at k1 k2 k3 k4
     clear hel g1 g2 g3 g4 c2 c3 c4 c6
     have hq2:=Lib.hid hq
     have hwr2:=Lib.hid hwr
     go_wp2_with (go_at_call 59;refine (sin _ _ _ _).mono ?_;rintro e w1 ⟨rfl,rfl⟩)
     all_goals first
      | (
               go_ret
               refine ⟨ret_bool (hno.out ?_).symm,Rd.byB⟩
               go_tidy
               rw [Bool.eq_false_iff]
               simp only [Form.hd,Bool.and_eq_true,decide_eq_true_eq,ne_eq]
               rintro ⟨⟨z1,z2⟩,z3⟩
               first | omega | (simp_all;done) | (simp only [z2,z3,Bool.not_true,Bool.false_eq_true,or_false] at *;omega))
      | skip
     go_roundw
     case rel =>
      refine ⟨k+1,by omega,by go_num,hq2.out.alloc (by omega) _,hyes.out ?_⟩
      go_tidy
      simp only [Form.hd,Bool.and_eq_true,decide_eq_true_eq]
      refine ⟨⟨⟨by omega,by omega,by omega⟩,?_⟩,?_⟩
      ·assumption
      ·simp_all
     case measure=>simp [intOf];omega
    ·have hge:m.handlers.length≤k:=by omega
     have hh:m.handlers.all (Form.hd f.classes.length m.code.length)=true:=Form.all_of (fun j hj=>hall.out j hj (by omega))
     have hhd:=Lib.hid (Form.head_rest (nc:=f.classes.length) (most:=most) hpar.out hh)
     clear hh
     clear hel hall
     obtain ⟨tr,htr⟩:∃ tr,Hid (Hier.ty f.classes.length ⟨rk,rc⟩=tr):=⟨_,rfl⟩
     obtain ⟨rr,hrr⟩:∃ rr,Hid (Form.rng m.code.length 1 (most+1)=rr):=⟨_,rfl⟩
     by_cases d1:m.params.length≤4
     ·have d1':(m.params.length:Int)≤4:=by omega
      have hq:=fun w=>run_eql_ty rk rc 0 0 w
      have hg:=fun op x y xs ys w=>run_guard_ty op x y xs ys w
      have hnr:Hid (Form.ret f.classes.length m.ret=(decide (rk=0∧rc=0) || tr)):=by
       show _=_
       rw [← htr.out,← hrk.out,← hrc.out];rfl
      have hrr':Hid (Form.head f.classes.length m most=(true && (decide (rk=0∧rc=0) || tr) && rr && decide (m.handlers.length≤8))):=by
       show _=_
       rw [hhd.out,decide_eq_true d1,hnr.out,hrr.out]
      clear hhd hnr
      cases tr <;> cases rr
      all_goals
       go_wp2_with (first
        | (go_at_call 58;refine (type _ _ _ ⟨rk,rc⟩ _).mono ?_;rw [htr.out];rintro e w1 ⟨rfl,hb1⟩;have y5:=kept hb1 (by omega) c5;have y6:=kept hb1 (by omega) c6)
        | (go_at_call 59;refine (sinV _ _ _ _ _ hrr.out).mono ?_;rintro e w2 ⟨rfl,rfl⟩))
       all_goals go_ret
       all_goals refine ⟨ret_bool ?_,?_⟩
       all_goals first
        | exact hwr
        | exact hwr.trans (hb1.mono (by omega))
        | skip
       all_goals go_tidy
       all_goals rw [hrr'.out]
       all_goals simp_all
       all_goals first | rfl | (intros;omega)
     ·have d1':¬ (m.params.length:Int)≤4:=by omega
      have e1:Hid (Form.head f.classes.length m most=false):=by
       show _=_
       rw [hhd.out,decide_eq_false d1];rfl
      go_wp2_with fail
      go_ret
      refine ⟨ret_bool ?_,hwr⟩
      go_tidy
      rw [e1.out]
end FormW
namespace FormW
open Num Rd D HierW
theorem headV (f:Fi) (m:Me) (most:Int) (p:Bool) (vf vm:Value) (w:World) (hp:Form.head f.classes.length m most=p) (hf:VFi w w.heap.size vf f) (hm:VMe w w.heap.size vm m) (hmost:0≤most∧most≤100000) :
  Calls Try.prog 31 #[vf,vm,.int .i64 most] w fun e w'=>e=.returned (.bool p)∧Below w.heap.size w w':=by
 subst hp;exact head f m most vf vm w hf hm hmost
def B2 (w:World) (n:Nat) (v0 v1:Value):Prop:=w.cell? ⟨n,0,none⟩=some v0∧w.cell? ⟨n,1,none⟩=some v1
def B8 (w:World) (n:Nat) (v0 v1 v2 v3 v4 v5 v6 v7:Value):Prop:=w.cell? ⟨n,0,none⟩=some v0∧w.cell? ⟨n,1,none⟩=some v1∧w.cell? ⟨n,2,none⟩=some v2∧w.cell? ⟨n,3,none⟩=some v3 ∧
 w.cell? ⟨n,4,none⟩=some v4∧w.cell? ⟨n,5,none⟩=some v5∧w.cell? ⟨n,6,none⟩=some v6∧w.cell? ⟨n,7,none⟩=some v7
theorem B2.next {w w':World}{B n:Nat}{v0 v1:Value}(h:B2 w n v0 v1) (hb:Below B w w') (hlt:n < B):B2 w' n v0 v1:=⟨kept hb hlt h.1,kept hb hlt h.2⟩
theorem B8.next {w w':World}{B n:Nat}{v0 v1 v2 v3 v4 v5 v6 v7:Value}(h:B8 w n v0 v1 v2 v3 v4 v5 v6 v7) (hb:Below B w w') (hlt:n < B):B8 w' n v0 v1 v2 v3 v4 v5 v6 v7:=by
 obtain ⟨h0,h1,h2,h3,h4,h5,h6,h7⟩:=h
 exact ⟨kept hb hlt h0,kept hb hlt h1,kept hb hlt h2,kept hb hlt h3,kept hb hlt h4,kept hb hlt h5,kept hb hlt h6,kept hb hlt h7⟩
theorem mayV (v:Value) (l:List Cls) (p:Bool) (w:World) (hp:Hier.may l=p) (h:Cs w v l):Calls Try.prog 29 #[v] w fun e w'=>e=.returned (.bool p)∧Below w.heap.size w w':=by
 subst hp;exact may v l w h
end FormW
namespace Look
open Num Rd D HierW FormW
def insTo (f:Fi) (m:Me) (k:Nat):Bool:=(m.code.take k).all (Rform.ins f m)
theorem insTo_succ {f:Fi}{m:Me}{k:Nat}(h:k < m.code.length):insTo f m (k+1)=(insTo f m k && Rform.ins f m m.code[k]):=by
 unfold insTo;rw [List.take_succ_eq_append_getElem h,List.all_append];simp
theorem insTo_all (f:Fi) (m:Me):insTo f m m.code.length=m.code.all (Rform.ins f m):=by unfold insTo;rw [List.take_of_length_le (Nat.le_refl _)]
def pre (f:Fi) (m:Me):Bool:=Form.head f.classes.length m 2400 && decide (m.stack=0) && decide (m.locals=0) && Form.rng m.regs (max 1 (Form.slots m.params:Nat)) 91
theorem rme_eq (f:Fi) (m:Me):Rform.rme f m=(pre f m && insTo f m m.code.length):=by rw [insTo_all];rfl
set_option maxRecDepth 100000 in
theorem rmay (f:Fi) (vf:Value) (w:World) (hf:VFi w w.heap.size vf f) :
  Calls Try.prog 14 #[vf] w fun e w'=>e=.returned (.bool (Rform.rmay f))∧Below w.heap.size w w':=by
 have hf0:=hf
 obtain ⟨vc,vme,rfl,hcs,hms⟩:=hf
 have hcs2:=Lib.hid hcs
 obtain ⟨ca,ccap,rfl,clc,ccc,_⟩:=hcs
 have hms2:=Lib.hid hms
 obtain ⟨ma,mcap,rfl,mlc,mcc,mel⟩:=hms
 obtain ⟨ph,hph⟩:∃ p,Hid (Hier.may f.classes=p):=⟨_,rfl⟩
 obtain ⟨pn,hpn⟩:∃ p,Hid (Form.rng f.methods.length 1 9=p):=⟨_,rfl⟩
 have hall0:Hid (Rform.rmay f=(ph && pn && f.methods.all (Rform.rme f))):=by
  show _=_
  rw [← hph.out,← hpn.out];rfl
 cases ph <;> cases pn
 all_goals go_enter Try.func14,Try.ntmps14
 all_goals go_wp2_with (first
  | (go_at_call 29;refine (mayV _ _ _ _ hph.out (Cs.next hcs2.out Rd.byB)).mono ?_;rintro e w1 ⟨rfl,hb1⟩;have hw1:Below w.heap.size w w1:=Below.trans Rd.byB (hb1.mono (by simp));have y0:w1.cell? ⟨w.heap.size,0,none⟩=some (.slice ca f.classes.length ccap):=kept hb1 (by simp) (by go_simp);have y1:w1.cell? ⟨w.heap.size,1,none⟩=some (.slice ma f.methods.length mcap):=kept hb1 (by simp) (by go_simp))
  | (go_at_call 30;refine (linV _ _ _ _ _ hpn.out).mono ?_;rintro e w2 ⟨rfl,rfl⟩))
 all_goals first
  | (
       go_ret
       exact ⟨ret_bool (by rw [hall0.out];simp),hw1⟩)
  | skip
 have hws:=hw1.size
 have nn:w.heap.size < w1.heap.size:=by have:=lt_cell y0;omega
 go_loopw [22] (fun i wr=>∃ k:Nat,k≤f.methods.length∧i=.int .i64 k∧Below w1.heap.size w1 wr∧Hid (∀ j (h:j < f.methods.length),j < k→Rform.rme f f.methods[j]=true)) (fun i _=>f.methods.length - (intOf i).toNat)
 case atStart=>exact ⟨0,by omega,rfl,Rd.byB,fun j _ h=>absurd h (by omega)⟩
 case round =>
  obtain ⟨k,hk,rfl,hq,hall⟩:=hrel
  have hqs:=hq.size
  have hwr:Below w.heap.size w wr:=hw1.trans (hq.mono hws)
  have hwrs:=hwr.size
  have n3:w.heap.size < wr.heap.size:=by omega
  have c1:=kept hq (by omega) y0
  have c2:=kept hq (by omega) y1
  clear y0 y1
  by_cases hlt:k < f.methods.length
  ·obtain ⟨b,o,rfl,hb,he⟩:=mel k hlt
   have hyes:=Lib.hid (Form.all_step (p:=Rform.rme f) hall.out hlt)
   have hno:=Lib.hid (Form.all_not (p:=Rform.rme f) hlt)
   obtain ⟨t,ht⟩:=at_of hlt
   rw [ht.out] at he hyes hno
   obtain ⟨vp,vd,vh,g0,g1,g2,g3,g4,g5,g6,g7,oks,s1,s2,s3⟩:=he
   have hvm:VMe w w.heap.size (.agg #[vp,.int .i64 t.ret.kind,.int .i64 t.ret.cls,.int .i64 t.stack,.int .i64 t.locals,.int .i64 t.regs,vd,vh]) t:=⟨vp,vd,vh,rfl,oks,s1,s2,s3⟩
   obtain ⟨pa,pcap,rfl,plc,pcc,pel⟩:=s1
   have hts0:Ts w (.slice pa t.params.length pcap) t.params:=⟨pa,pcap,rfl,plc,pcc,pel⟩
   clear pel
   obtain ⟨da,dcap,rfl,dlc,dcc,del⟩:=s2
   obtain ⟨ha,hcap,rfl,_,_,_⟩:=s3
   have k0:=kept hwr hb g0
   have k1:=kept hwr hb g1
   have k2:=kept hwr hb g2
   have k3:=kept hwr hb g3
   have k4:=kept hwr hb g4
   have k5:=kept hwr hb g5
   have k6:=kept hwr hb g6
   have k7:=kept hwr hb g7
   have hq2:=Lib.hid hq
   have hwr2:=Lib.hid hwr
   have ok5:=oks.2.2.2.2
   have ok4:=oks.2.2.2.1
   have ok3:=oks.2.2.1
   have okr:=Lib.hid oks.1
   unfold Ok at ok5 ok4 ok3
   have hltI:(k:Int) < f.methods.length:=by omega
   clear g0 g1 g2 g3 g4 g5 g6 g7 oks
   go_wp2_with fail
   refine name_world (fun W=>Below w.heap.size w W∧Below wr.heap.size wr W∧wr.heap.size+1≤W.heap.size∧B2 W w.heap.size (.slice ca f.classes.length ccap) (.slice (some ⟨b,o,none⟩) f.methods.length mcap)∧B8 W wr.heap.size (.slice pa t.params.length pcap) (.int .i64 t.ret.kind) (.int .i64 t.ret.cls) (.int .i64 t.stack) (.int .i64 t.locals) (.int .i64 t.regs) (.slice da t.code.length dcap) (.slice ha t.handlers.length hcap)) ?_ ?_
   ·refine ⟨Rd.byB,Rd.byB,?_,⟨?_,?_⟩,⟨?_,?_,?_,?_,?_,?_,?_,?_⟩⟩
    all_goals go_simp
   rintro W ⟨hbw,hbr,hsz,⟨f1,f2⟩,⟨m0,m1,m2,m3,m4,m5,m6,m7⟩⟩
   have hbs:=hbw.size
   have hfW:=hf0.mono hbw hbs
   have hmW:=hvm.mono hbw hbs
   have htW:=hts0.next hbw
   clear c1 c2 k0 k1 k2 k3 k4 k5 k6 k7 mel
   obtain ⟨ph,hph⟩:∃ p,Hid (Form.head f.classes.length t 2400=p):=⟨_,rfl⟩
   obtain ⟨Z,hS⟩:∃ S,Hid (Form.slots t.params=S):=⟨_,rfl⟩
   obtain ⟨MX,hMX⟩:∃ x,Hid ((if (1:Int) < (Z:Int) then (Z:Int) else 1)=x):=⟨_,rfl⟩
   obtain ⟨pl,hpl⟩:∃ p,Hid (Form.rng t.regs MX 91=p):=⟨_,rfl⟩
   have hMX1:1≤MX:=by rw [← hMX.out];split <;> omega
   have hpre:Hid (pre f t=(ph && decide (t.stack=0) && decide (t.locals=0) && pl)):=by
    show _=_
    have hmx:(if (1:Int) < (Z:Int) then (Z:Int) else 1)=max 1 (Z:Int):=by
     rw [Int.max_def];split <;> split <;> omega
    rw [← hph.out,← hpl.out,← hMX.out,hmx,← hS.out];rfl
   cases ph
   ·
    refine Drawn.hd (fun w'=>(w'.cell? ⟨w.heap.size,0,none⟩=some (.slice ca f.classes.length ccap)∧w'.cell? ⟨w.heap.size,1,none⟩=some (.slice (some ⟨b,o,none⟩) f.methods.length mcap))∧w'.cell? ⟨wr.heap.size,0,none⟩=some (.slice pa t.params.length pcap)∧w'.cell? ⟨wr.heap.size,1,none⟩=some (.int .i64 t.ret.kind)∧w'.cell? ⟨wr.heap.size,2,none⟩=some (.int .i64 t.ret.cls)∧w'.cell? ⟨wr.heap.size,3,none⟩=some (.int .i64 t.stack)∧w'.cell? ⟨wr.heap.size,4,none⟩=some (.int .i64 t.locals)∧w'.cell? ⟨wr.heap.size,5,none⟩=some (.int .i64 t.regs)∧w'.cell? ⟨wr.heap.size,6,none⟩=some (.slice da t.code.length dcap)∧w'.cell? ⟨wr.heap.size,7,none⟩=some (.slice ha t.handlers.length hcap)) (hS:=by (try dsimp only);first | exact ⟨⟨f1,f2⟩,m0,m1,m2,m3,m4,m5,m6,m7⟩ | go_keep) (h:=fun hHeld=>?_)
    refine Drawn.T 0 (some 26) (h:=?_)
    refine Drawn.T 1 (some 27) (h:=?_)
    refine Drawn.T 2 (some 28) (h:=?_)
    refine Drawn.T 3 (some 29) (h:=?_)
    refine Drawn.cl 4 (fun K hK=>?_)
    go_simp
    go_at_call 31
    refine (headV f t 2400 _ _ _ _ hph.out (hfW.mono Rd.byB (by simp)) (hmW.mono Rd.byB (by simp)) (by omega)).mono ?_
    rintro e w2 ⟨rfl,hb2⟩
    have hbW:Below W.heap.size W w2:=Below.trans Rd.byB (hb2.mono (by simp))
    have k2:=B2.next ⟨f1,f2⟩ hbW (by omega)
    have k8:=B8.next ⟨m0,m1,m2,m3,m4,m5,m6,m7⟩ hbW (by omega)
    go_wp2_with fail
    refine Drawn.bk hK (hS:=by (try dsimp only);exact ⟨k2,k8⟩) (h:=fun hHeld=>?_)
    clear hK K
    refine Drawn.T 5 (some 31) (h:=?_)
    refine Drawn.ps 6 (some 32) rfl rfl (by assumption) ?_
    try simp only [Act.put,Drawn.La,Drawn.Lb,Drawn.Lc]
    refine Drawn.ps 7 (some 33) rfl rfl (by assumption) ?_
    try simp only [Act.put,Drawn.La,Drawn.Lb,Drawn.Lc]
    refine Drawn.ps 8 (some 34) rfl rfl (by assumption) ?_
    try simp only [Act.put,Drawn.La,Drawn.Lb,Drawn.Lc]
    refine Drawn.T 9 (some 35) (h:=?_)
    refine Drawn.T 10 (some 36) (h:=?_)
    refine Drawn.ps 11 (some 37) rfl rfl (by assumption) ?_
    try simp only [Act.put,Drawn.La,Drawn.Lb,Drawn.Lc]
    refine Drawn.ps 12 (some 38) rfl rfl (by assumption) ?_
    try simp only [Act.put,Drawn.La,Drawn.Lb,Drawn.Lc]
    refine Drawn.ps 13 (some 39) rfl rfl (by assumption) ?_
    try simp only [Act.put,Drawn.La,Drawn.Lb,Drawn.Lc]
    refine Drawn.T 14 (some 40) (h:=?_)
    refine Drawn.T 15 (some 41) (h:=?_)
    refine Drawn.ps 16 (some 42) rfl rfl (by assumption) ?_
    try simp only [Act.put,Drawn.La,Drawn.Lb,Drawn.Lc]
    refine Drawn.ps 17 (some 43) rfl rfl (by assumption) ?_
    try simp only [Act.put,Drawn.La,Drawn.Lb,Drawn.Lc]
    refine Drawn.ps 18 (some 44) rfl rfl (by assumption) ?_
    try simp only [Act.put,Drawn.La,Drawn.Lb,Drawn.Lc]
    refine Drawn.ps 19 (some 45) rfl rfl (by assumption) ?_
    try simp only [Act.put,Drawn.La,Drawn.Lb,Drawn.Lc]
    refine Drawn.ps 20 (some 46) rfl rfl (by assumption) ?_
    try simp only [Act.put,Drawn.La,Drawn.Lb,Drawn.Lc]
    refine Drawn.ps 21 (some 47) rfl rfl (by assumption) ?_
    try simp only [Act.put,Drawn.La,Drawn.Lb,Drawn.Lc]
    refine Drawn.ps 22 (some 48) rfl rfl (by assumption) ?_
    try simp only [Act.put,Drawn.La,Drawn.Lb,Drawn.Lc]
    refine Drawn.T 23 (some 49) (h:=?_)
    refine Drawn.T 24 (some 50) (h:=?_)
    refine Drawn.cl 25 (fun K hK=>?_)
    go_simp
    refine Drawn.bk hK (hS:=by (try dsimp only);obtain ⟨kf,km⟩:(_∧_):=⟨k2,k8⟩;have:=lt_cell kf.1;have:=lt_cell km.1;refine ⟨⟨?_,?_⟩,?_,?_,?_,?_,?_,?_,?_,?_⟩ <;> (obtain ⟨kf0,kf1⟩:=kf;obtain ⟨km0,km1,km2,km3,km4,km5,km6,km7⟩:=km;go_simp)) (h:=fun hHeld=>?_)
    clear hK K
    refine Drawn.T 26 (some 5) (h:=?_)
    refine wpAnyH_done (by kernel_rfl) ?_ _
    have hpt:Hid (pre f t=false):=by
     show _=_
     rw [hpre.out];rfl
    have hxs:=hbW.size
    refine name_world (fun W2=>Hid (Lk W2 w2.heap.size (.slice ca f.classes.length ccap) (.slice (some ⟨b,o,none⟩) f.methods.length mcap) (.slice pa t.params.length pcap) (.slice da t.code.length dcap) (.slice ha t.handlers.length hcap) t false)∧Below w2.heap.size w2 W2∧W2.cell? ⟨wr.heap.size,6,none⟩=some (.slice da t.code.length dcap)) ?_ ?_
    ·refine ⟨?_,Rd.byB,?_⟩
     ·show Lk _ _ _ _ _ _ _ _ _
      refine ⟨⟨?_,?_⟩,⟨?_,?_,?_,?_,?_,?_,?_,?_⟩,?_,?_⟩
      all_goals go_simp
     ·obtain ⟨kf,km⟩:(_∧_):=⟨k2,k8⟩
      have hz:=lt_cell km.1
      have km6:=km.2.2.2.2.2.2.1
      clear kf km
      go_simp
    rintro W2 ⟨hlk0,hbl0,m6'⟩
    have hbl1:Below wr.heap.size wr W2:=(hbr.trans (hbW.mono hbr.size)).trans (hbl0.mono (by have:=hbr.size;omega))
    have hbl2:Below w.heap.size w W2:=hwr2.out.trans (hbl1.mono hwrs)
    have hblw:w.heap.size≤w2.heap.size:=by have:=hbr.size;omega
    have hl6:=lt_cell m6'
    have hlbs:=hlk0.out.lt
    have hlbr:wr.heap.size < w2.heap.size:=by have:=hbr.size;omega
    clear f1 f2 m0 m1 m2 m3 m4 m5 m6 m7 htW hfW hmW hts0 k2 k8
    go_wp2_with fail
    obtain ⟨wo,rfl⟩:∃ wo:World,wo=wr:=⟨_,rfl⟩
    go_loopw [55] (fun i wr=>∃ j:Nat,j≤t.code.length∧i=.int .i64 j∧Hid (Lk wr w2.heap.size (.slice ca f.classes.length ccap) (.slice (some ⟨b,o,none⟩) f.methods.length mcap) (.slice pa t.params.length pcap) (.slice da t.code.length dcap) (.slice ha t.handlers.length hcap) t false)∧Keep W2.heap.size w2.heap.size W2 wr) (fun i _=>t.code.length - (intOf i).toNat)
    case atStart=>exact ⟨0,by omega,rfl,hlk0,Keep.refl _ _ _⟩
    case round =>
     obtain ⟨j,hj,rfl,hlk,hkp⟩:=hrel
     have hks:=hkp.size
     have z10:=hlk.out.2.2.1
     have hlz:=hlk.out.lt
     by_cases hlt2:j < t.code.length
     ·obtain ⟨b2,o2,rfl,hb2',he2⟩:=del j hlt2
      obtain ⟨x,hx⟩:=at_of hlt2
      rw [hx.out] at he2
      obtain ⟨g1,g2,g3,g4,g5,oks,va,g6,gargs⟩:=he2
      obtain ⟨aa,acap,rfl,alc,acc,_⟩:=gargs
      have h1:=hkp.cell (by omega) (by omega) (kept hbl2 hb2' g1)
      have h2:=hkp.cell (by omega) (by omega) (kept hbl2 hb2' g2)
      have h3:=hkp.cell (by omega) (by omega) (kept hbl2 hb2' g3)
      have h4:=hkp.cell (by omega) (by omega) (kept hbl2 hb2' g4)
      have h5:=hkp.cell (by omega) (by omega) (kept hbl2 hb2' g5)
      have h6:=hkp.cell (by omega) (by omega) (kept hbl2 hb2' g6)
      have hI2:(0:Int)≤(j:Int)∧(j:Int) < t.code.length:=⟨by omega,by omega⟩
      obtain ⟨hI3,hI4⟩:=hI2
      clear del g1 g2 g3 g4 g5 g6
      go_wp2_with fail
      go_roundw
      case rel=>exact ⟨j+1,by omega,by go_num,Lib.hid (hlk.out.next (Below.alloc (Below.refl _ _) (Nat.le_refl _) _) hlk.out.lt),hkp.trans (Keep.alloc (Keep.refl _ _ _) (by omega) _)⟩
      case measure=>simp [intOf];omega
     ·have hge2:¬ (j:Int) < t.code.length:=by omega
      have hkb:Below w.heap.size w wr:=hbl2.trans (hkp.below (by omega) (by omega))
      clear del
      go_wp2_with fail
      go_ret
      exact ⟨ret_bool (by rw [hall0.out];simp [hno.out (by rw [rme_eq,hpt.out];rfl)]),hkb⟩
   ·by_cases hs0:t.stack=0
    ·have hst0:(t.stack==0)=true:=by simpa using hs0
     have HS0:=Lib.hid hs0
     clear hs0
     by_cases hl0:t.locals=0
     ·have hlo0:(t.locals==0)=true:=by simpa using hl0
      have HL0:=Lib.hid hl0
      clear hl0
      have hp4:t.params.length≤4:=by
       have h:=hph.out
       simp only [Form.head,Bool.and_eq_true,decide_eq_true_eq] at h
       exact h.1.1.1.2
      refine Drawn.hd (fun w'=>(w'.cell? ⟨w.heap.size,0,none⟩=some (.slice ca f.classes.length ccap)∧w'.cell? ⟨w.heap.size,1,none⟩=some (.slice (some ⟨b,o,none⟩) f.methods.length mcap))∧w'.cell? ⟨wr.heap.size,0,none⟩=some (.slice pa t.params.length pcap)∧w'.cell? ⟨wr.heap.size,1,none⟩=some (.int .i64 t.ret.kind)∧w'.cell? ⟨wr.heap.size,2,none⟩=some (.int .i64 t.ret.cls)∧w'.cell? ⟨wr.heap.size,3,none⟩=some (.int .i64 t.stack)∧w'.cell? ⟨wr.heap.size,4,none⟩=some (.int .i64 t.locals)∧w'.cell? ⟨wr.heap.size,5,none⟩=some (.int .i64 t.regs)∧w'.cell? ⟨wr.heap.size,6,none⟩=some (.slice da t.code.length dcap)∧w'.cell? ⟨wr.heap.size,7,none⟩=some (.slice ha t.handlers.length hcap)) (hS:=by (try dsimp only);first | exact ⟨⟨f1,f2⟩,m0,m1,m2,m3,m4,m5,m6,m7⟩ | go_keep) (h:=fun hHeld=>?_)
      refine Drawn.T 0 (some 26) (h:=?_)
      refine Drawn.T 1 (some 27) (h:=?_)
      refine Drawn.T 2 (some 28) (h:=?_)
      refine Drawn.T 3 (some 29) (h:=?_)
      refine Drawn.cl 4 (fun K hK=>?_)
      go_simp
      go_at_call 31
      refine (headV f t 2400 _ _ _ _ hph.out (hfW.mono Rd.byB (by simp)) (hmW.mono Rd.byB (by simp)) (by omega)).mono ?_
      rintro e w2 ⟨rfl,hb2⟩
      have hbW:Below W.heap.size W w2:=Below.trans Rd.byB (hb2.mono (by simp))
      have k2:=B2.next ⟨f1,f2⟩ hbW (by omega)
      have k8:=B8.next ⟨m0,m1,m2,m3,m4,m5,m6,m7⟩ hbW (by omega)
      go_wp2_with fail
      refine Drawn.bk hK (hS:=by (try dsimp only);exact ⟨k2,k8⟩) (h:=fun hHeld=>?_)
      clear hK K
      refine Drawn.T 5 (some 31) (h:=?_)
      refine Drawn.T 6 (some 32) (h:=?_)
      refine Drawn.T 7 (some 33) (h:=?_)
      refine Drawn.T 8 (some 34) (h:=?_)
      refine Drawn.T 9 (some 35) (h:=?_)
      refine Drawn.T 10 (some 36) (h:=?_)
      refine Drawn.T 11 (some 37) (h:=?_)
      refine Drawn.T 12 (some 38) (h:=?_)
      refine Drawn.T 13 (some 39) (h:=?_)
      refine Drawn.T 14 (some 40) (h:=?_)
      refine Drawn.T 15 (some 41) (h:=?_)
      refine Drawn.T 16 (some 42) (h:=?_)
      refine Drawn.T 17 (some 43) (h:=?_)
      refine Drawn.T 18 (some 44) (h:=?_)
      refine Drawn.T 19 (some 45) (h:=?_)
      refine Drawn.cl 20 (fun K hK=>?_)
      go_simp
      go_at_call 32
      refine (slotsV _ t.params Z _ (htW.next hbW) (by omega) hS.out).mono ?_
      rintro e w4 ⟨rfl,hb4⟩
      have hbX:Below W.heap.size W w4:=hbW.trans (hb4.mono hbW.size)
      have x2:=B2.next ⟨f1,f2⟩ hbX (by omega)
      have x8:=B8.next ⟨m0,m1,m2,m3,m4,m5,m6,m7⟩ hbX (by omega)
      go_wp2_with fail
      refine Drawn.bk hK (hS:=by (try dsimp only);exact ⟨x2,x8⟩) (h:=fun hHeld=>?_)
      clear hK K
      have hif:=hMX.out
      refine Drawn.T 21 (some 47) (h:=?_)
      clear hif
      refine Drawn.cl 22 (fun K hK=>?_)
      go_simp
      go_at_call 30
      refine (linV _ _ _ _ _ hpl.out).mono ?_
      rintro e w5 ⟨rfl,rfl⟩
      go_wp2_with fail
      refine Drawn.bk hK (hS:=by (try dsimp only);exact ⟨x2,x8⟩) (h:=fun hHeld=>?_)
      clear hK K
      refine Drawn.T 23 (some 49) (h:=?_)
      have hbX3:=hbX.size
      cases pl
      ·
       refine Drawn.T 24 (some 50) (h:=?_)
       refine Drawn.cl 25 (fun K hK=>?_)
       go_simp
       refine Drawn.bk hK (hS:=by (try dsimp only);obtain ⟨kf,km⟩:(_∧_):=⟨x2,x8⟩;have:=lt_cell kf.1;have:=lt_cell km.1;refine ⟨⟨?_,?_⟩,?_,?_,?_,?_,?_,?_,?_,?_⟩ <;> (obtain ⟨kf0,kf1⟩:=kf;obtain ⟨km0,km1,km2,km3,km4,km5,km6,km7⟩:=km;go_simp)) (h:=fun hHeld=>?_)
       clear hK K
       refine Drawn.T 26 (some 5) (h:=?_)
       refine wpAnyH_done (by kernel_rfl) ?_ _
       have hpt:Hid (pre f t=false):=by
        show _=_
        rw [hpre.out];simp
       have hxs:=hbX.size
       refine name_world (fun W2=>Hid (Lk W2 w4.heap.size (.slice ca f.classes.length ccap) (.slice (some ⟨b,o,none⟩) f.methods.length mcap) (.slice pa t.params.length pcap) (.slice da t.code.length dcap) (.slice ha t.handlers.length hcap) t false)∧Below w4.heap.size w4 W2∧W2.cell? ⟨wr.heap.size,6,none⟩=some (.slice da t.code.length dcap)) ?_ ?_
       ·refine ⟨?_,Rd.byB,?_⟩
        ·show Lk _ _ _ _ _ _ _ _ _
         refine ⟨⟨?_,?_⟩,⟨?_,?_,?_,?_,?_,?_,?_,?_⟩,?_,?_⟩
         all_goals go_simp
        ·obtain ⟨kf,km⟩:(_∧_):=⟨x2,x8⟩
         have hz:=lt_cell km.1
         have km6:=km.2.2.2.2.2.2.1
         clear kf km
         go_simp
       rintro W2 ⟨hlk0,hbl0,m6'⟩
       have hbl1:Below wr.heap.size wr W2:=(hbr.trans (hbX.mono hbr.size)).trans (hbl0.mono (by have:=hbr.size;omega))
       have hbl2:Below w.heap.size w W2:=hwr2.out.trans (hbl1.mono hwrs)
       have hblw:w.heap.size≤w4.heap.size:=by have:=hbr.size;omega
       have hl6:=lt_cell m6'
       have hlbs:=hlk0.out.lt
       have hlbr:wr.heap.size < w4.heap.size:=by have:=hbr.size;omega
       clear f1 f2 m0 m1 m2 m3 m4 m5 m6 m7 htW hfW hmW hts0 k2 k8
       go_wp2_with fail
       obtain ⟨wo,rfl⟩:∃ wo:World,wo=wr:=⟨_,rfl⟩
       go_loopw [55] (fun i wr=>∃ j:Nat,j≤t.code.length∧i=.int .i64 j∧Hid (Lk wr w4.heap.size (.slice ca f.classes.length ccap) (.slice (some ⟨b,o,none⟩) f.methods.length mcap) (.slice pa t.params.length pcap) (.slice da t.code.length dcap) (.slice ha t.handlers.length hcap) t false)∧Keep W2.heap.size w4.heap.size W2 wr) (fun i _=>t.code.length - (intOf i).toNat)
       case atStart=>exact ⟨0,by omega,rfl,hlk0,Keep.refl _ _ _⟩
       case round =>
        obtain ⟨j,hj,rfl,hlk,hkp⟩:=hrel
        have hks:=hkp.size
        have z10:=hlk.out.2.2.1
        have hlz:=hlk.out.lt
        by_cases hlt2:j < t.code.length
        ·obtain ⟨b2,o2,rfl,hb2',he2⟩:=del j hlt2
         obtain ⟨x,hx⟩:=at_of hlt2
         rw [hx.out] at he2
         obtain ⟨g1,g2,g3,g4,g5,oks,va,g6,gargs⟩:=he2
         obtain ⟨aa,acap,rfl,alc,acc,_⟩:=gargs
         have h1:=hkp.cell (by omega) (by omega) (kept hbl2 hb2' g1)
         have h2:=hkp.cell (by omega) (by omega) (kept hbl2 hb2' g2)
         have h3:=hkp.cell (by omega) (by omega) (kept hbl2 hb2' g3)
         have h4:=hkp.cell (by omega) (by omega) (kept hbl2 hb2' g4)
         have h5:=hkp.cell (by omega) (by omega) (kept hbl2 hb2' g5)
         have h6:=hkp.cell (by omega) (by omega) (kept hbl2 hb2' g6)
         have hI2:(0:Int)≤(j:Int)∧(j:Int) < t.code.length:=⟨by omega,by omega⟩
         obtain ⟨hI3,hI4⟩:=hI2
         clear del g1 g2 g3 g4 g5 g6
         go_wp2_with fail
         go_roundw
         case rel=>exact ⟨j+1,by omega,by go_num,Lib.hid (hlk.out.next (Below.alloc (Below.refl _ _) (Nat.le_refl _) _) hlk.out.lt),hkp.trans (Keep.alloc (Keep.refl _ _ _) (by omega) _)⟩
         case measure=>simp [intOf];omega
        ·have hge2:¬ (j:Int) < t.code.length:=by omega
         have hkb:Below w.heap.size w wr:=hbl2.trans (hkp.below (by omega) (by omega))
         clear del
         go_wp2_with fail
         go_ret
         exact ⟨ret_bool (by rw [hall0.out];simp [hno.out (by rw [rme_eq,hpt.out];rfl)]),hkb⟩
      ·have hregs:0≤t.regs∧t.regs≤90:=by
        have h:=hpl.out
        simp only [Form.rng,decide_eq_true_eq] at h
        omega
       refine Drawn.T 24 (some 50) (h:=?_)
       refine Drawn.cl 25 (fun K hK=>?_)
       go_simp
       refine Drawn.bk hK (hS:=by (try dsimp only);obtain ⟨kf,km⟩:(_∧_):=⟨x2,x8⟩;have:=lt_cell kf.1;have:=lt_cell km.1;refine ⟨⟨?_,?_⟩,?_,?_,?_,?_,?_,?_,?_,?_⟩ <;> (obtain ⟨kf0,kf1⟩:=kf;obtain ⟨km0,km1,km2,km3,km4,km5,km6,km7⟩:=km;go_simp)) (h:=fun hHeld=>?_)
       clear hK K
       refine Drawn.T 26 (some 5) (h:=?_)
       refine wpAnyH_done (by kernel_rfl) ?_ _
       have hpt:Hid (pre f t=true):=by
        show _=_
        rw [hpre.out,decide_eq_true HS0.out,decide_eq_true HL0.out];rfl
       have hxs:=hbX.size
       refine name_world (fun W2=>Hid (Lk W2 w4.heap.size (.slice ca f.classes.length ccap) (.slice (some ⟨b,o,none⟩) f.methods.length mcap) (.slice pa t.params.length pcap) (.slice da t.code.length dcap) (.slice ha t.handlers.length hcap) t true)∧Below w4.heap.size w4 W2∧W2.cell? ⟨wr.heap.size,6,none⟩=some (.slice da t.code.length dcap)) ?_ ?_
       ·refine ⟨?_,Rd.byB,?_⟩
        ·show Lk _ _ _ _ _ _ _ _ _
         refine ⟨⟨?_,?_⟩,⟨?_,?_,?_,?_,?_,?_,?_,?_⟩,?_,?_⟩
         all_goals go_simp
        ·obtain ⟨kf,km⟩:(_∧_):=⟨x2,x8⟩
         have hz:=lt_cell km.1
         have km6:=km.2.2.2.2.2.2.1
         clear kf km
         go_simp
       rintro W2 ⟨hlk0,hbl0,m6'⟩
       have hbl1:Below wr.heap.size wr W2:=(hbr.trans (hbX.mono hbr.size)).trans (hbl0.mono (by have:=hbr.size;omega))
       have hbl2:Below w.heap.size w W2:=hwr2.out.trans (hbl1.mono hwrs)
       have hblw:w.heap.size≤w4.heap.size:=by have:=hbr.size;omega
       have hl6:=lt_cell m6'
       have hlbs:=hlk0.out.lt
       have hlbr:wr.heap.size < w4.heap.size:=by have:=hbr.size;omega
       clear f1 f2 m0 m1 m2 m3 m4 m5 m6 m7 htW hfW hmW hts0 k2 k8
       go_wp2_with fail
       obtain ⟨wo,rfl⟩:∃ wo:World,wo=wr:=⟨_,rfl⟩
       have hFit:Hid (Fit f t f.classes.length ccap dcap):=⟨clc,ccc,dlc,dcc,hregs⟩
       go_loopw [55] (fun i wr=>∃ j:Nat,j≤t.code.length∧i=.int .i64 j∧Hid (Lk wr w4.heap.size (.slice ca f.classes.length ccap) (.slice (some ⟨b,o,none⟩) f.methods.length mcap) (.slice pa t.params.length pcap) (.slice da t.code.length dcap) (.slice ha t.handlers.length hcap) t (insTo f t j))∧Keep W2.heap.size w4.heap.size W2 wr) (fun i _=>t.code.length - (intOf i).toNat)
       case atStart=>exact ⟨0,by omega,rfl,by show Lk _ _ _ _ _ _ _ _ _;simpa [insTo] using hlk0.out,Keep.refl _ _ _⟩
       case round =>
        obtain ⟨j,hj,rfl,hlk,hkp⟩:=hrel
        have hks:=hkp.size
        have hlz:=hlk.out.lt
        have hkb:Below w.heap.size w wr:=hbl2.trans (hkp.below (by omega) (by omega))
        by_cases hlt2:j < t.code.length
        ·obtain ⟨b2,o2,rfl,hb2',he2⟩:=del j hlt2
         have hst:=Lib.hid (insTo_succ (f:=f) hlt2)
         obtain ⟨x,hx⟩:=at_of hlt2
         rw [hx.out] at he2 hst
         obtain ⟨g1,g2,g3,g4,g5,oks,va,g6,gargs⟩:=he2
         have hvi:VIns w w.heap.size (.agg #[.int .i64 x.op,.int .i64 x.a,.int .i64 x.b,.int .i64 x.c,.int .i64 x.n,va]) x:=⟨va,rfl,oks,gargs⟩
         have hvi2:=Lib.hid hvi
         clear hvi
         obtain ⟨aa,acap,rfl,alc,acc,_⟩:=gargs
         have h1:=hkp.cell (by omega) (by omega) (kept hbl2 hb2' g1)
         have h2:=hkp.cell (by omega) (by omega) (kept hbl2 hb2' g2)
         have h3:=hkp.cell (by omega) (by omega) (kept hbl2 hb2' g3)
         have h4:=hkp.cell (by omega) (by omega) (kept hbl2 hb2' g4)
         have h5:=hkp.cell (by omega) (by omega) (kept hbl2 hb2' g5)
         have h6:=hkp.cell (by omega) (by omega) (kept hbl2 hb2' g6)
         have hI2:(0:Int)≤(j:Int)∧(j:Int) < t.code.length:=⟨by omega,by omega⟩
         obtain ⟨hI3,hI4⟩:=hI2
         obtain ⟨q,hq7⟩:∃ q,Hid (insTo f t j=q):=⟨_,rfl⟩
         rw [hq7.out] at hlk hst
         have z10:=hlk.out.2.2.1
         clear del g1 g2 g3 g4 g5 g6
         cases q
         ·go_wp2_with fail
          go_roundw
          case rel =>
           refine ⟨j+1,by omega,by go_num,?_,hkp.trans (Keep.alloc (Keep.refl _ _ _) (by omega) _)⟩
           rw [hst.out]
           exact (hlk.out.next (Below.alloc (Below.refl _ _) (Nat.le_refl _) _) hlk.out.lt)
          case measure=>simp [intOf];omega
         ·go_wp2_with fail
          have hkc:=hkb.alloc (by omega) (.cells #[.int .i64 x.op,.int .i64 x.a,.int .i64 x.b,.int .i64 x.c,.int .i64 x.n,.slice aa x.args.length acap] 79)
          refine (Look.ins f t x _ w4.heap.size ca ccap _ _ _ dcap _ _ (hlk.out.next (Below.alloc (Below.refl _ _) (Nat.le_refl _) _) hlk.out.lt) hFit.out okr.out w.heap.size hblw (Sl.mono mCls hcs2.out hkc (Nat.le_refl _)) (Sl.mono mMe hms2.out hkc (Nat.le_refl _)) (hvi2.out.mono hkc (Nat.le_refl _))).mono ?_
          rintro e w6 ⟨rfl,hA,hK6⟩
          have hA2:=Lib.hid hA
          clear hA hkc
          go_wp2_with fail
          go_roundw
          case rel =>
           refine ⟨j+1,by omega,by go_num,?_,hkp.trans (Keep.trans (Keep.alloc (Keep.refl _ _ _) hks _) (hK6.mono (by simp;omega)))⟩
           rw [hst.out,Bool.true_and]
           exact hA2.out
          case measure=>simp [intOf];omega
        ·have hge2:¬ (j:Int) < t.code.length:=by omega
         have hjj:Hid (j=t.code.length):=by show _=_;omega
         obtain ⟨q,hq7⟩:∃ q,Hid (insTo f t j=q):=⟨_,rfl⟩
         rw [hq7.out] at hlk
         have hrm:Hid (Rform.rme f t=q):=by show _=_;rw [rme_eq,hpt.out,← hq7.out,hjj.out];rfl
         have z10:=hlk.out.2.2.1
         clear del
         cases q
         ·go_wp2_with fail
          go_ret
          exact ⟨ret_bool (by rw [hall0.out];simp [hno.out hrm.out]),hkb⟩
         ·have hh:=Lib.hid (hyes.out hrm.out)
          have hfin:Below w1.heap.size w1 wr:=hq2.out.trans ((hbl1.trans (hkp.below (by omega) (by omega))).mono hqs)
          go_wp2_with fail
          go_roundw
          case rel=>exact ⟨k+1,by omega,by go_num,hfin,hh.out⟩
          case measure=>simp [intOf];omega
     ·have hlo0:(t.locals==0)=false:=by simpa using hl0
      have HL0:=Lib.hid hl0
      clear hl0
      refine Drawn.hd (fun w'=>(w'.cell? ⟨w.heap.size,0,none⟩=some (.slice ca f.classes.length ccap)∧w'.cell? ⟨w.heap.size,1,none⟩=some (.slice (some ⟨b,o,none⟩) f.methods.length mcap))∧w'.cell? ⟨wr.heap.size,0,none⟩=some (.slice pa t.params.length pcap)∧w'.cell? ⟨wr.heap.size,1,none⟩=some (.int .i64 t.ret.kind)∧w'.cell? ⟨wr.heap.size,2,none⟩=some (.int .i64 t.ret.cls)∧w'.cell? ⟨wr.heap.size,3,none⟩=some (.int .i64 t.stack)∧w'.cell? ⟨wr.heap.size,4,none⟩=some (.int .i64 t.locals)∧w'.cell? ⟨wr.heap.size,5,none⟩=some (.int .i64 t.regs)∧w'.cell? ⟨wr.heap.size,6,none⟩=some (.slice da t.code.length dcap)∧w'.cell? ⟨wr.heap.size,7,none⟩=some (.slice ha t.handlers.length hcap)) (hS:=by (try dsimp only);first | exact ⟨⟨f1,f2⟩,m0,m1,m2,m3,m4,m5,m6,m7⟩ | go_keep) (h:=fun hHeld=>?_)
      refine Drawn.T 0 (some 26) (h:=?_)
      refine Drawn.T 1 (some 27) (h:=?_)
      refine Drawn.T 2 (some 28) (h:=?_)
      refine Drawn.T 3 (some 29) (h:=?_)
      refine Drawn.cl 4 (fun K hK=>?_)
      go_simp
      go_at_call 31
      refine (headV f t 2400 _ _ _ _ hph.out (hfW.mono Rd.byB (by simp)) (hmW.mono Rd.byB (by simp)) (by omega)).mono ?_
      rintro e w2 ⟨rfl,hb2⟩
      have hbW:Below W.heap.size W w2:=Below.trans Rd.byB (hb2.mono (by simp))
      have k2:=B2.next ⟨f1,f2⟩ hbW (by omega)
      have k8:=B8.next ⟨m0,m1,m2,m3,m4,m5,m6,m7⟩ hbW (by omega)
      go_wp2_with fail
      refine Drawn.bk hK (hS:=by (try dsimp only);exact ⟨k2,k8⟩) (h:=fun hHeld=>?_)
      clear hK K
      refine Drawn.T 5 (some 31) (h:=?_)
      refine Drawn.T 6 (some 32) (h:=?_)
      refine Drawn.T 7 (some 33) (h:=?_)
      refine Drawn.T 8 (some 34) (h:=?_)
      refine Drawn.T 9 (some 35) (h:=?_)
      refine Drawn.T 10 (some 36) (h:=?_)
      refine Drawn.T 11 (some 37) (h:=?_)
      refine Drawn.T 12 (some 38) (h:=?_)
      refine Drawn.T 13 (some 39) (h:=?_)
      refine Drawn.T 14 (some 40) (h:=?_)
      refine Drawn.T 15 (some 41) (h:=?_)
      refine Drawn.ps 16 (some 42) rfl rfl (by assumption) ?_
      try simp only [Act.put,Drawn.La,Drawn.Lb,Drawn.Lc]
      refine Drawn.ps 17 (some 43) rfl rfl (by assumption) ?_
      try simp only [Act.put,Drawn.La,Drawn.Lb,Drawn.Lc]
      refine Drawn.ps 18 (some 44) rfl rfl (by assumption) ?_
      try simp only [Act.put,Drawn.La,Drawn.Lb,Drawn.Lc]
      refine Drawn.ps 19 (some 45) rfl rfl (by assumption) ?_
      try simp only [Act.put,Drawn.La,Drawn.Lb,Drawn.Lc]
      refine Drawn.ps 20 (some 46) rfl rfl (by assumption) ?_
      try simp only [Act.put,Drawn.La,Drawn.Lb,Drawn.Lc]
      refine Drawn.ps 21 (some 47) rfl rfl (by assumption) ?_
      try simp only [Act.put,Drawn.La,Drawn.Lb,Drawn.Lc]
      refine Drawn.ps 22 (some 48) rfl rfl (by assumption) ?_
      try simp only [Act.put,Drawn.La,Drawn.Lb,Drawn.Lc]
      refine Drawn.T 23 (some 49) (h:=?_)
      refine Drawn.T 24 (some 50) (h:=?_)
      refine Drawn.cl 25 (fun K hK=>?_)
      go_simp
      refine Drawn.bk hK (hS:=by (try dsimp only);obtain ⟨kf,km⟩:(_∧_):=⟨k2,k8⟩;have:=lt_cell kf.1;have:=lt_cell km.1;refine ⟨⟨?_,?_⟩,?_,?_,?_,?_,?_,?_,?_,?_⟩ <;> (obtain ⟨kf0,kf1⟩:=kf;obtain ⟨km0,km1,km2,km3,km4,km5,km6,km7⟩:=km;go_simp)) (h:=fun hHeld=>?_)
      clear hK K
      refine Drawn.T 26 (some 5) (h:=?_)
      refine wpAnyH_done (by kernel_rfl) ?_ _
      have hpt:Hid (pre f t=false):=by
       show _=_
       rw [hpre.out,decide_eq_false HL0.out];simp
      have hxs:=hbW.size
      refine name_world (fun W2=>Hid (Lk W2 w2.heap.size (.slice ca f.classes.length ccap) (.slice (some ⟨b,o,none⟩) f.methods.length mcap) (.slice pa t.params.length pcap) (.slice da t.code.length dcap) (.slice ha t.handlers.length hcap) t false)∧Below w2.heap.size w2 W2∧W2.cell? ⟨wr.heap.size,6,none⟩=some (.slice da t.code.length dcap)) ?_ ?_
      ·refine ⟨?_,Rd.byB,?_⟩
       ·show Lk _ _ _ _ _ _ _ _ _
        refine ⟨⟨?_,?_⟩,⟨?_,?_,?_,?_,?_,?_,?_,?_⟩,?_,?_⟩
        all_goals go_simp
       ·obtain ⟨kf,km⟩:(_∧_):=⟨k2,k8⟩
        have hz:=lt_cell km.1
        have km6:=km.2.2.2.2.2.2.1
        clear kf km
        go_simp
      rintro W2 ⟨hlk0,hbl0,m6'⟩
      have hbl1:Below wr.heap.size wr W2:=(hbr.trans (hbW.mono hbr.size)).trans (hbl0.mono (by have:=hbr.size;omega))
      have hbl2:Below w.heap.size w W2:=hwr2.out.trans (hbl1.mono hwrs)
      have hblw:w.heap.size≤w2.heap.size:=by have:=hbr.size;omega
      have hl6:=lt_cell m6'
      have hlbs:=hlk0.out.lt
      have hlbr:wr.heap.size < w2.heap.size:=by have:=hbr.size;omega
      clear f1 f2 m0 m1 m2 m3 m4 m5 m6 m7 htW hfW hmW hts0 k2 k8
      go_wp2_with fail
      obtain ⟨wo,rfl⟩:∃ wo:World,wo=wr:=⟨_,rfl⟩
      go_loopw [55] (fun i wr=>∃ j:Nat,j≤t.code.length∧i=.int .i64 j∧Hid (Lk wr w2.heap.size (.slice ca f.classes.length ccap) (.slice (some ⟨b,o,none⟩) f.methods.length mcap) (.slice pa t.params.length pcap) (.slice da t.code.length dcap) (.slice ha t.handlers.length hcap) t false)∧Keep W2.heap.size w2.heap.size W2 wr) (fun i _=>t.code.length - (intOf i).toNat)
      case atStart=>exact ⟨0,by omega,rfl,hlk0,Keep.refl _ _ _⟩
      case round =>
       obtain ⟨j,hj,rfl,hlk,hkp⟩:=hrel
       have hks:=hkp.size
       have z10:=hlk.out.2.2.1
       have hlz:=hlk.out.lt
       by_cases hlt2:j < t.code.length
       ·obtain ⟨b2,o2,rfl,hb2',he2⟩:=del j hlt2
        obtain ⟨x,hx⟩:=at_of hlt2
        rw [hx.out] at he2
        obtain ⟨g1,g2,g3,g4,g5,oks,va,g6,gargs⟩:=he2
        obtain ⟨aa,acap,rfl,alc,acc,_⟩:=gargs
        have h1:=hkp.cell (by omega) (by omega) (kept hbl2 hb2' g1)
        have h2:=hkp.cell (by omega) (by omega) (kept hbl2 hb2' g2)
        have h3:=hkp.cell (by omega) (by omega) (kept hbl2 hb2' g3)
        have h4:=hkp.cell (by omega) (by omega) (kept hbl2 hb2' g4)
        have h5:=hkp.cell (by omega) (by omega) (kept hbl2 hb2' g5)
        have h6:=hkp.cell (by omega) (by omega) (kept hbl2 hb2' g6)
        have hI2:(0:Int)≤(j:Int)∧(j:Int) < t.code.length:=⟨by omega,by omega⟩
        obtain ⟨hI3,hI4⟩:=hI2
        clear del g1 g2 g3 g4 g5 g6
        go_wp2_with fail
        go_roundw
        case rel=>exact ⟨j+1,by omega,by go_num,Lib.hid (hlk.out.next (Below.alloc (Below.refl _ _) (Nat.le_refl _) _) hlk.out.lt),hkp.trans (Keep.alloc (Keep.refl _ _ _) (by omega) _)⟩
        case measure=>simp [intOf];omega
       ·have hge2:¬ (j:Int) < t.code.length:=by omega
        have hkb:Below w.heap.size w wr:=hbl2.trans (hkp.below (by omega) (by omega))
        clear del
        go_wp2_with fail
        go_ret
        exact ⟨ret_bool (by rw [hall0.out];simp [hno.out (by rw [rme_eq,hpt.out];rfl)]),hkb⟩
    ·have hst0:(t.stack==0)=false:=by simpa using hs0
     have HS0:=Lib.hid hs0
     clear hs0
     refine Drawn.hd (fun w'=>(w'.cell? ⟨w.heap.size,0,none⟩=some (.slice ca f.classes.length ccap)∧w'.cell? ⟨w.heap.size,1,none⟩=some (.slice (some ⟨b,o,none⟩) f.methods.length mcap))∧w'.cell? ⟨wr.heap.size,0,none⟩=some (.slice pa t.params.length pcap)∧w'.cell? ⟨wr.heap.size,1,none⟩=some (.int .i64 t.ret.kind)∧w'.cell? ⟨wr.heap.size,2,none⟩=some (.int .i64 t.ret.cls)∧w'.cell? ⟨wr.heap.size,3,none⟩=some (.int .i64 t.stack)∧w'.cell? ⟨wr.heap.size,4,none⟩=some (.int .i64 t.locals)∧w'.cell? ⟨wr.heap.size,5,none⟩=some (.int .i64 t.regs)∧w'.cell? ⟨wr.heap.size,6,none⟩=some (.slice da t.code.length dcap)∧w'.cell? ⟨wr.heap.size,7,none⟩=some (.slice ha t.handlers.length hcap)) (hS:=by (try dsimp only);first | exact ⟨⟨f1,f2⟩,m0,m1,m2,m3,m4,m5,m6,m7⟩ | go_keep) (h:=fun hHeld=>?_)
     refine Drawn.T 0 (some 26) (h:=?_)
     refine Drawn.T 1 (some 27) (h:=?_)
     refine Drawn.T 2 (some 28) (h:=?_)
     refine Drawn.T 3 (some 29) (h:=?_)
     refine Drawn.cl 4 (fun K hK=>?_)
     go_simp
     go_at_call 31
     refine (headV f t 2400 _ _ _ _ hph.out (hfW.mono Rd.byB (by simp)) (hmW.mono Rd.byB (by simp)) (by omega)).mono ?_
     rintro e w2 ⟨rfl,hb2⟩
     have hbW:Below W.heap.size W w2:=Below.trans Rd.byB (hb2.mono (by simp))
     have k2:=B2.next ⟨f1,f2⟩ hbW (by omega)
     have k8:=B8.next ⟨m0,m1,m2,m3,m4,m5,m6,m7⟩ hbW (by omega)
     go_wp2_with fail
     refine Drawn.bk hK (hS:=by (try dsimp only);exact ⟨k2,k8⟩) (h:=fun hHeld=>?_)
     clear hK K
     refine Drawn.T 5 (some 31) (h:=?_)
     refine Drawn.T 6 (some 32) (h:=?_)
     refine Drawn.T 7 (some 33) (h:=?_)
     refine Drawn.T 8 (some 34) (h:=?_)
     refine Drawn.T 9 (some 35) (h:=?_)
     refine Drawn.T 10 (some 36) (h:=?_)
     refine Drawn.ps 11 (some 37) rfl rfl (by assumption) ?_
     try simp only [Act.put,Drawn.La,Drawn.Lb,Drawn.Lc]
     refine Drawn.ps 12 (some 38) rfl rfl (by assumption) ?_
     try simp only [Act.put,Drawn.La,Drawn.Lb,Drawn.Lc]
     refine Drawn.ps 13 (some 39) rfl rfl (by assumption) ?_
     try simp only [Act.put,Drawn.La,Drawn.Lb,Drawn.Lc]
     refine Drawn.T 14 (some 40) (h:=?_)
     refine Drawn.T 15 (some 41) (h:=?_)
     refine Drawn.ps 16 (some 42) rfl rfl (by assumption) ?_
     try simp only [Act.put,Drawn.La,Drawn.Lb,Drawn.Lc]
     refine Drawn.ps 17 (some 43) rfl rfl (by assumption) ?_
     try simp only [Act.put,Drawn.La,Drawn.Lb,Drawn.Lc]
     refine Drawn.ps 18 (some 44) rfl rfl (by assumption) ?_
     try simp only [Act.put,Drawn.La,Drawn.Lb,Drawn.Lc]
     refine Drawn.ps 19 (some 45) rfl rfl (by assumption) ?_
     try simp only [Act.put,Drawn.La,Drawn.Lb,Drawn.Lc]
     refine Drawn.ps 20 (some 46) rfl rfl (by assumption) ?_
     try simp only [Act.put,Drawn.La,Drawn.Lb,Drawn.Lc]
     refine Drawn.ps 21 (some 47) rfl rfl (by assumption) ?_
     try simp only [Act.put,Drawn.La,Drawn.Lb,Drawn.Lc]
     refine Drawn.ps 22 (some 48) rfl rfl (by assumption) ?_
     try simp only [Act.put,Drawn.La,Drawn.Lb,Drawn.Lc]
     refine Drawn.T 23 (some 49) (h:=?_)
     refine Drawn.T 24 (some 50) (h:=?_)
     refine Drawn.cl 25 (fun K hK=>?_)
     go_simp
     refine Drawn.bk hK (hS:=by (try dsimp only);obtain ⟨kf,km⟩:(_∧_):=⟨k2,k8⟩;have:=lt_cell kf.1;have:=lt_cell km.1;refine ⟨⟨?_,?_⟩,?_,?_,?_,?_,?_,?_,?_,?_⟩ <;> (obtain ⟨kf0,kf1⟩:=kf;obtain ⟨km0,km1,km2,km3,km4,km5,km6,km7⟩:=km;go_simp)) (h:=fun hHeld=>?_)
     clear hK K
     refine Drawn.T 26 (some 5) (h:=?_)
     refine wpAnyH_done (by kernel_rfl) ?_ _
     have hpt:Hid (pre f t=false):=by
      show _=_
      rw [hpre.out,decide_eq_false HS0.out];simp
     have hxs:=hbW.size
     refine name_world (fun W2=>Hid (Lk W2 w2.heap.size (.slice ca f.classes.length ccap) (.slice (some ⟨b,o,none⟩) f.methods.length mcap) (.slice pa t.params.length pcap) (.slice da t.code.length dcap) (.slice ha t.handlers.length hcap) t false)∧Below w2.heap.size w2 W2∧W2.cell? ⟨wr.heap.size,6,none⟩=some (.slice da t.code.length dcap)) ?_ ?_
     ·refine ⟨?_,Rd.byB,?_⟩
      ·show Lk _ _ _ _ _ _ _ _ _
       refine ⟨⟨?_,?_⟩,⟨?_,?_,?_,?_,?_,?_,?_,?_⟩,?_,?_⟩
       all_goals go_simp
      ·obtain ⟨kf,km⟩:(_∧_):=⟨k2,k8⟩
       have hz:=lt_cell km.1
       have km6:=km.2.2.2.2.2.2.1
       clear kf km
       go_simp
     rintro W2 ⟨hlk0,hbl0,m6'⟩
     have hbl1:Below wr.heap.size wr W2:=(hbr.trans (hbW.mono hbr.size)).trans (hbl0.mono (by have:=hbr.size;omega))
     have hbl2:Below w.heap.size w W2:=hwr2.out.trans (hbl1.mono hwrs)
     have hblw:w.heap.size≤w2.heap.size:=by have:=hbr.size;omega
     have hl6:=lt_cell m6'
     have hlbs:=hlk0.out.lt
     have hlbr:wr.heap.size < w2.heap.size:=by have:=hbr.size;omega
     clear f1 f2 m0 m1 m2 m3 m4 m5 m6 m7 htW hfW hmW hts0 k2 k8
     go_wp2_with fail
     obtain ⟨wo,rfl⟩:∃ wo:World,wo=wr:=⟨_,rfl⟩
     go_loopw [55] (fun i wr=>∃ j:Nat,j≤t.code.length∧i=.int .i64 j∧Hid (Lk wr w2.heap.size (.slice ca f.classes.length ccap) (.slice (some ⟨b,o,none⟩) f.methods.length mcap) (.slice pa t.params.length pcap) (.slice da t.code.length dcap) (.slice ha t.handlers.length hcap) t false)∧Keep W2.heap.size w2.heap.size W2 wr) (fun i _=>t.code.length - (intOf i).toNat)
     case atStart=>exact ⟨0,by omega,rfl,hlk0,Keep.refl _ _ _⟩
     case round =>
      obtain ⟨j,hj,rfl,hlk,hkp⟩:=hrel
      have hks:=hkp.size
      have z10:=hlk.out.2.2.1
      have hlz:=hlk.out.lt
      by_cases hlt2:j < t.code.length
      ·obtain ⟨b2,o2,rfl,hb2',he2⟩:=del j hlt2
       obtain ⟨x,hx⟩:=at_of hlt2
       rw [hx.out] at he2
       obtain ⟨g1,g2,g3,g4,g5,oks,va,g6,gargs⟩:=he2
       obtain ⟨aa,acap,rfl,alc,acc,_⟩:=gargs
       have h1:=hkp.cell (by omega) (by omega) (kept hbl2 hb2' g1)
       have h2:=hkp.cell (by omega) (by omega) (kept hbl2 hb2' g2)
       have h3:=hkp.cell (by omega) (by omega) (kept hbl2 hb2' g3)
       have h4:=hkp.cell (by omega) (by omega) (kept hbl2 hb2' g4)
       have h5:=hkp.cell (by omega) (by omega) (kept hbl2 hb2' g5)
       have h6:=hkp.cell (by omega) (by omega) (kept hbl2 hb2' g6)
       have hI2:(0:Int)≤(j:Int)∧(j:Int) < t.code.length:=⟨by omega,by omega⟩
       obtain ⟨hI3,hI4⟩:=hI2
       clear del g1 g2 g3 g4 g5 g6
       go_wp2_with fail
       go_roundw
       case rel=>exact ⟨j+1,by omega,by go_num,Lib.hid (hlk.out.next (Below.alloc (Below.refl _ _) (Nat.le_refl _) _) hlk.out.lt),hkp.trans (Keep.alloc (Keep.refl _ _ _) (by omega) _)⟩
       case measure=>simp [intOf];omega
      ·have hge2:¬ (j:Int) < t.code.length:=by omega
       have hkb:Below w.heap.size w wr:=hbl2.trans (hkp.below (by omega) (by omega))
       clear del
       go_wp2_with fail
       go_ret
       exact ⟨ret_bool (by rw [hall0.out];simp [hno.out (by rw [rme_eq,hpt.out];rfl)]),hkb⟩
  ·have hst:=Lib.hid (Form.all_of (p:=Rform.rme f) (fun j hj=>hall.out j hj (by omega)))
   clear hall mel
   go_wp2
   go_ret
   exact ⟨ret_bool (by rw [hall0.out,hst.out];rfl),hwr⟩
end Look
namespace RefG
open Num Rd D HierW FormW
theorem lrmayV (f:Fi) (p:Bool) (vf:Value) (w:World) (hp:Rform.rmay f=p) (hf:VFi w w.heap.size vf f) :
  Calls Try.prog 14 #[vf] w fun e w'=>e=.returned (.bool p)∧Below w.heap.size w w':=by
 subst hp;exact Look.rmay f vf w hf
end RefG
namespace Hpr
open Num Rd D Run Mem HierW Hpw
section
variable {w:World}{B:Nat}{f:Fi}{E:Ev}{L:Lay}{d:Nat}
set_option maxRecDepth 100000 in
theorem runN {vf va vi:Value}(Hf:VFi w w.heap.size vf f) (hmay:Rform.rmay f=false) (entry fuel:Int):Calls Try.prog 5 #[vf,.int .i64 entry,va,vi,.int .i64 fuel] w (RunA w Sh.nil 2):=by
 have Hf':=Lib.hid Hf
 obtain ⟨vc,vm,rfl,hc,hm⟩:=Hf
 obtain ⟨a1,c1,rfl,_⟩:=hc
 obtain ⟨a2,c2,rfl,_⟩:=hm
 obtain ⟨n1,hn1⟩:∃ n,n=f.classes.length:=⟨_,rfl⟩
 obtain ⟨n2,hn2⟩:∃ n,n=f.methods.length:=⟨_,rfl⟩
 rw [← hn1,← hn2] at Hf' ⊢
 have HM:=Lib.hid hmay
 clear hmay hn1 hn2
 go_enter Try.func5,Try.ntmps5
 go_wp2_with fail
 refine (RefG.lrmayV f _ _ _ HM.out (Hf'.out.mono (by exact Rd.byB) (by simp <;> omega))).mono ?_
 rintro e w1 ⟨rfl,hb1⟩
 have a0:w1.cell? ⟨w.heap.size,0,none⟩=some (.slice a1 n1 c1):=kept hb1 Rd.byL (by go_simp)
 have a1':w1.cell? ⟨w.heap.size,1,none⟩=some (.slice a2 n2 c2):=kept hb1 Rd.byL (by go_simp)
 have a2':w1.cell? ⟨w.heap.size+1,0,none⟩=some (.int .i64 entry):=kept hb1 Rd.byL (by go_simp)
 have y0:w1.cell? ⟨w.heap.size+1+1,0,none⟩=some (.int .i64 0):=kept hb1 Rd.byL (by go_simp)
 have f0:w1.frozen? ⟨w.heap.size+1+1,0,none⟩=false:=keptf hb1 Rd.byL (by go_simp)
 have y1:w1.cell? ⟨w.heap.size+1+1,1,none⟩=some (.int .i64 0):=kept hb1 Rd.byL (by go_simp)
 have f1:w1.frozen? ⟨w.heap.size+1+1,1,none⟩=false:=keptf hb1 Rd.byL (by go_simp)
 have y2:w1.cell? ⟨w.heap.size+1+1,2,none⟩=some (.int .i64 0):=kept hb1 Rd.byL (by go_simp)
 have f2:w1.frozen? ⟨w.heap.size+1+1,2,none⟩=false:=keptf hb1 Rd.byL (by go_simp)
 have y3:w1.cell? ⟨w.heap.size+1+1,3,none⟩=some (.slice none 0 0):=kept hb1 Rd.byL (by go_simp)
 have f3:w1.frozen? ⟨w.heap.size+1+1,3,none⟩=false:=keptf hb1 Rd.byL (by go_simp)
 have y4:w1.cell? ⟨w.heap.size+1+1,4,none⟩=some (.int .i64 0):=kept hb1 Rd.byL (by go_simp)
 have f4:w1.frozen? ⟨w.heap.size+1+1,4,none⟩=false:=keptf hb1 Rd.byL (by go_simp)
 have y5:w1.cell? ⟨w.heap.size+1+1,5,none⟩=some (.int .i64 0):=kept hb1 Rd.byL (by go_simp)
 have f5:w1.frozen? ⟨w.heap.size+1+1,5,none⟩=false:=keptf hb1 Rd.byL (by go_simp)
 have hbw:Below w.heap.size w w1:=Below.trans (by exact Rd.byB) (hb1.mono (by simp <;> omega))
 have hsz:w.heap.size+3≤w1.heap.size:=by have:=hb1.size;simp at this;omega
 have ly:=cell_lt y0
 clear hb1
 go_wp2_with fail
 refine bodyPost_ret (v:=.tuple #[.agg #[.int .i64 0,.int .i64 0,.int .i64 0,.slice none 0 0,.int .i64 0,.int .i64 0],.int .i64 2]) (by simp [results,Try.results5,go_sem] <;> go_simp) rfl ?_
 exact ⟨_,rfl,⟨_,rfl,World.ownsRow_nil _ _ _ _⟩,by exact Rd.byB⟩
set_option maxRecDepth 100000 in
theorem runE {vf va vi:Value}(Hf:VFi w w.heap.size vf f) (hmay:Rform.rmay f=true) (entry fuel c:Int) (hc0:c≠0) (hbg:∀ W,Below w.heap.size w W→Calls Try.prog 15 #[vf,.int .i64 entry,va,vi,.int .i64 fuel] W (BeginE W c)):Calls Try.prog 5 #[vf,.int .i64 entry,va,vi,.int .i64 fuel] w (RunA w Sh.nil c):=by
 have Hf':=Lib.hid Hf
 have HBG:=Lib.hid hbg
 obtain ⟨vc,vm,rfl,hc,hm⟩:=Hf
 obtain ⟨a1,c1,rfl,_⟩:=hc
 obtain ⟨a2,c2,rfl,_⟩:=hm
 obtain ⟨n1,hn1⟩:∃ n,n=f.classes.length:=⟨_,rfl⟩
 obtain ⟨n2,hn2⟩:∃ n,n=f.methods.length:=⟨_,rfl⟩
 rw [← hn1,← hn2] at Hf' HBG ⊢
 have HM:=Lib.hid hmay
 clear hmay hn1 hn2
 clear hbg
 have hcb:(c != 0)=true:=by simpa using hc0
 go_enter Try.func5,Try.ntmps5
 go_wp2_with fail
 refine (RefG.lrmayV f _ _ _ HM.out (Hf'.out.mono (by exact Rd.byB) (by simp <;> omega))).mono ?_
 rintro e w1 ⟨rfl,hb1⟩
 have a0:w1.cell? ⟨w.heap.size,0,none⟩=some (.slice a1 n1 c1):=kept hb1 Rd.byL (by go_simp)
 have a1':w1.cell? ⟨w.heap.size,1,none⟩=some (.slice a2 n2 c2):=kept hb1 Rd.byL (by go_simp)
 have a2':w1.cell? ⟨w.heap.size+1,0,none⟩=some (.int .i64 entry):=kept hb1 Rd.byL (by go_simp)
 have y0:w1.cell? ⟨w.heap.size+1+1,0,none⟩=some (.int .i64 0):=kept hb1 Rd.byL (by go_simp)
 have f0:w1.frozen? ⟨w.heap.size+1+1,0,none⟩=false:=keptf hb1 Rd.byL (by go_simp)
 have y1:w1.cell? ⟨w.heap.size+1+1,1,none⟩=some (.int .i64 0):=kept hb1 Rd.byL (by go_simp)
 have f1:w1.frozen? ⟨w.heap.size+1+1,1,none⟩=false:=keptf hb1 Rd.byL (by go_simp)
 have y2:w1.cell? ⟨w.heap.size+1+1,2,none⟩=some (.int .i64 0):=kept hb1 Rd.byL (by go_simp)
 have f2:w1.frozen? ⟨w.heap.size+1+1,2,none⟩=false:=keptf hb1 Rd.byL (by go_simp)
 have y3:w1.cell? ⟨w.heap.size+1+1,3,none⟩=some (.slice none 0 0):=kept hb1 Rd.byL (by go_simp)
 have f3:w1.frozen? ⟨w.heap.size+1+1,3,none⟩=false:=keptf hb1 Rd.byL (by go_simp)
 have y4:w1.cell? ⟨w.heap.size+1+1,4,none⟩=some (.int .i64 0):=kept hb1 Rd.byL (by go_simp)
 have f4:w1.frozen? ⟨w.heap.size+1+1,4,none⟩=false:=keptf hb1 Rd.byL (by go_simp)
 have y5:w1.cell? ⟨w.heap.size+1+1,5,none⟩=some (.int .i64 0):=kept hb1 Rd.byL (by go_simp)
 have f5:w1.frozen? ⟨w.heap.size+1+1,5,none⟩=false:=keptf hb1 Rd.byL (by go_simp)
 have hbw:Below w.heap.size w w1:=Below.trans (by exact Rd.byB) (hb1.mono (by simp <;> omega))
 have hsz:w.heap.size+3≤w1.heap.size:=by have:=hb1.size;simp at this;omega
 have ly:=cell_lt y0
 clear hb1
 go_wp2_with fail
 refine (HBG.out _ hbw).mono ?_
 rintro e w2 ⟨rfl,hb2⟩
 replace y0:=kept hb2 ly y0
 replace f0:=keptf hb2 ly f0
 replace y1:=kept hb2 ly y1
 replace f1:=keptf hb2 ly f1
 replace y2:=kept hb2 ly y2
 replace f2:=keptf hb2 ly f2
 replace y3:=kept hb2 ly y3
 replace f3:=keptf hb2 ly f3
 replace y4:=kept hb2 ly y4
 replace f4:=keptf hb2 ly f4
 replace y5:=kept hb2 ly y5
 replace f5:=keptf hb2 ly f5
 have hbw2:=hbw.trans (hb2.mono (by omega))
 have ly2:=cell_lt y0
 have ly3:w.heap.size+1+1 < w2.heap.size+1:=by omega
 have ly4:w.heap.size+1+1 < w2.heap.size+1+1:=by omega
 clear hb2
 go_wp2_with fail
 refine bodyPost_ret (v:=.tuple #[.agg #[.int .i64 0,.int .i64 0,.int .i64 0,.slice none 0 0,.int .i64 0,.int .i64 0],.int .i64 c]) (by simp [results,Try.results5,go_sem] <;> go_simp) rfl ?_
 have hsz2:=hbw2.size
 have hfin:∀ (W:World) (j:Nat) (u:Value),Below w.heap.size w W→Below w.heap.size w (W.setCell ⟨w.heap.size+1+1,j,none⟩ u):=fun W j u h=>h.setCell (by show w.heap.size≤w.heap.size+1+1;omega) _
 have hal:∀ (W:World) (o:Obj),Below w.heap.size w W→Below w.heap.size w (W.alloc o):=fun W o h=>h.alloc h.size _
 refine ⟨_,rfl,⟨_,rfl,World.ownsRow_nil _ _ _ _⟩,?_⟩
 repeat (first | with_reducible exact hbw2 | with_reducible apply hal | with_reducible apply hfin)
set_option maxRecDepth 100000 in
theorem runO {vf va vi:Value}{input args:List Int}{fuel:Int}(S:FiR f) (MO:MachOk RM RfOk f input fuel.toNat) (Hf:VFi w w.heap.size vf f) (hmay:Rform.rmay f=true) (k:Nat) (hk:k < f.methods.length) (q3:¬ fuel < 0) (q4:¬ 60000 < fuel) (hi:Sl 1 EInt w w.heap.size vi input) (h3:input.length≤1000) (ha:Sl 1 EInt w w.heap.size va args) (h4:args.length=(f.methods[k]).params.length) (hno:(f.methods[k]).params.any (fun t=>decide (t.kind=3))=false) (hv:∀ v∈List.zipWith argOf (f.methods[k]).params args,VtOk 0 v) :
  Calls Try.prog 5 #[vf,.int .i64 k,va,vi,.int .i64 fuel] w (RunA w (shown (call RM f input fuel.toNat (fuel.toNat+1) 0 (meAt f k) (List.zipWith argOf (f.methods[k]).params args) h0)) 0):=by
 have em:f.methods[k]=meAt f k:=by unfold meAt;rw [List.getD_eq_getElem?_getD,List.getElem?_eq_getElem hk];rfl
 have Hf':=Lib.hid Hf
 have MM:=S.mes _ (List.getElem_mem hk)
 have hty:∀ t∈(f.methods[k]).params,t.kind=1∨t.kind=2∨t.kind=3:=fun t ht=>by
  have:=MM.params.2 t ht
  unfold Hier.ty at this
  split at this
  ·rename_i q;omega
  ·split at this
   ·rename_i q;omega
   ·cases this
 obtain ⟨vc,vm,rfl,hc,hm⟩:=Hf
 have HBEG:∀ W:World,Below w.heap.size w W→Calls Try.prog 15 #[.agg #[vc,vm],.int .i64 k,va,vi,.int .i64 fuel] W (BegR W f f.methods[k] args input fuel vc vm vi):=fun W hW=>begin5 (hc.mono mCls hW (Nat.le_refl _)) (hm.mono mMe hW (Nat.le_refl _)) hW.size k hk fuel q3 q4 (hi.mono mInt hW (Nat.le_refl _)) h3 (ha.mono mInt hW (Nat.le_refl _)) h4 MM.params.1 hty
 have HCO:CallOk f input fuel.toNat (meAt f k) h0 (call RM f input fuel.toNat (fuel.toNat+1) 0 (meAt f k) (List.zipWith argOf (f.methods[k]).params args) h0):=call_ok MO _ _ _ _ _ (meAt_mem hk) fiH0 hv (by rw [List.length_zipWith,h4,← em];omega)
 have HIV:∀ (E:Ev),(E.f=f∧E.input=input∧E.fuel=fuel.toNat)→∀ (W:World) (mv vl:Value),PH E W L0 h0 0→VMe W E.B mv (meAt f k)→VS W (own E L0) vl (List.zipWith argOf (f.methods[k]).params args)→Calls Try.prog 18 #[.pointer (some ⟨E.hb,0,none⟩),mv,vl] W (InvR E L0 0 W (call RM f input fuel.toNat (fuel.toNat+1) 0 (meAt f k) (List.zipWith argOf (f.methods[k]).params args) h0)):=fun E hE W mv vl H hmv V=>by
  obtain ⟨rfl,rfl,hEf⟩:=hE
  rw [← hEf] at MO ⊢
  exact invOk S MO (by omega) h3 20 0 rfl (E.fuel+1) h0 (by unfold h0;simp only;omega) k _ h0 hk fiH0 rfl hv (by rw [List.length_zipWith,h4,← em];omega) L0 W mv vl (own E L0) H hmv V (fun _ e=>e)
 obtain ⟨r,hr⟩:∃ r,Hid (call RM f input fuel.toNat (fuel.toNat+1) 0 (meAt f k) (List.zipWith argOf (f.methods[k]).params args) h0=r):=⟨_,Lib.hid rfl⟩
 rw [hr.out] at HIV HCO ⊢
 obtain ⟨a1,c1,rfl,_⟩:=id hc
 obtain ⟨a2,c2,rfl,_⟩:=id hm
 obtain ⟨n1,hn1⟩:∃ n,n=f.classes.length:=⟨_,rfl⟩
 obtain ⟨n2,hn2⟩:∃ n,n=f.methods.length:=⟨_,rfl⟩
 obtain ⟨entry,hent⟩:∃ entry:Int,entry=(k:Int):=⟨_,rfl⟩
 rw [← hn1,← hn2,← hent] at HBEG ⊢
 rw [← hn1,← hn2] at Hf'
 replace HBEG:=Lib.hid HBEG
 replace HIV:=Lib.hid HIV
 replace HCO:=Lib.hid HCO
 have HM:=Lib.hid hmay
 have HNO:=Lib.hid hno
 have HEN:=Lib.hid hent
 clear hmay hn1 hn2 hno hv hi ha hc hm hty MM MO h3 h4 q3 q4 em hent
 go_enter Try.func5,Try.ntmps5
 go_wp2_with fail
 refine (RefG.lrmayV f _ _ _ HM.out (Hf'.out.mono (by exact Rd.byB) (by simp <;> omega))).mono ?_
 rintro e w1 ⟨rfl,hb1⟩
 have a0:w1.cell? ⟨w.heap.size,0,none⟩=some (.slice a1 n1 c1):=kept hb1 Rd.byL (by go_simp)
 have a1':w1.cell? ⟨w.heap.size,1,none⟩=some (.slice a2 n2 c2):=kept hb1 Rd.byL (by go_simp)
 have a2':w1.cell? ⟨w.heap.size+1,0,none⟩=some (.int .i64 entry):=kept hb1 Rd.byL (by go_simp)
 have y0:w1.cell? ⟨w.heap.size+1+1,0,none⟩=some (.int .i64 0):=kept hb1 Rd.byL (by go_simp)
 have f0:w1.frozen? ⟨w.heap.size+1+1,0,none⟩=false:=keptf hb1 Rd.byL (by go_simp)
 have y1:w1.cell? ⟨w.heap.size+1+1,1,none⟩=some (.int .i64 0):=kept hb1 Rd.byL (by go_simp)
 have f1:w1.frozen? ⟨w.heap.size+1+1,1,none⟩=false:=keptf hb1 Rd.byL (by go_simp)
 have y2:w1.cell? ⟨w.heap.size+1+1,2,none⟩=some (.int .i64 0):=kept hb1 Rd.byL (by go_simp)
 have f2:w1.frozen? ⟨w.heap.size+1+1,2,none⟩=false:=keptf hb1 Rd.byL (by go_simp)
 have y3:w1.cell? ⟨w.heap.size+1+1,3,none⟩=some (.slice none 0 0):=kept hb1 Rd.byL (by go_simp)
 have f3:w1.frozen? ⟨w.heap.size+1+1,3,none⟩=false:=keptf hb1 Rd.byL (by go_simp)
 have y4:w1.cell? ⟨w.heap.size+1+1,4,none⟩=some (.int .i64 0):=kept hb1 Rd.byL (by go_simp)
 have f4:w1.frozen? ⟨w.heap.size+1+1,4,none⟩=false:=keptf hb1 Rd.byL (by go_simp)
 have y5:w1.cell? ⟨w.heap.size+1+1,5,none⟩=some (.int .i64 0):=kept hb1 Rd.byL (by go_simp)
 have f5:w1.frozen? ⟨w.heap.size+1+1,5,none⟩=false:=keptf hb1 Rd.byL (by go_simp)
 have hbw:Below w.heap.size w w1:=Below.trans (by exact Rd.byB) (hb1.mono (by simp <;> omega))
 have hsz:w.heap.size+3≤w1.heap.size:=by have:=hb1.size;simp at this;omega
 have ly:=cell_lt y0
 clear hb1
 go_wp2_with fail
 refine (HBEG.out _ hbw).mono ?_
 rintro e w2 HBG
 obtain ⟨E,vl,rfl,hE,H,V,hb2⟩:=begR HNO.out HBG
 obtain ⟨va2,vcap,hvl,_⟩:=V.len
 obtain ⟨nl,hnl⟩:∃ nl,nl=(List.zipWith argOf f.methods[k].params args).length:=⟨_,rfl⟩
 rw [← hnl] at hvl
 subst hvl
 clear hnl
 clear HBG
 replace y0:=kept hb2 ly y0
 replace f0:=keptf hb2 ly f0
 replace y1:=kept hb2 ly y1
 replace f1:=keptf hb2 ly f1
 replace y2:=kept hb2 ly y2
 replace f2:=keptf hb2 ly f2
 replace y3:=kept hb2 ly y3
 replace f3:=keptf hb2 ly f3
 replace y4:=kept hb2 ly y4
 replace f4:=keptf hb2 ly f4
 replace y5:=kept hb2 ly y5
 replace f5:=keptf hb2 ly f5
 replace a0:=kept hb2 (by omega) a0
 replace a1':=kept hb2 (by omega) a1'
 replace a2':=kept hb2 (by omega) a2'
 have hbw2:=hbw.trans (hb2.mono (by omega))
 have ly2:=cell_lt y0
 have ly3:w.heap.size+1+1 < w2.heap.size+1:=by omega
 have ly4:w.heap.size+1+1 < w2.heap.size+1+1:=by omega
 have hsz2:=hb2.size
 have HB2:=Lib.hid hb2
 replace H:=Lib.hid H
 replace V:=Lib.hid V
 replace hE:=Lib.hid hE
 clear hb2
 have n3:w2.heap.size < w2.heap.size+1:=by omega
 have hEB:E.B=w1.heap.size:=hE.out.2.2.2.1
 have nres:¬ own E L0 (w.heap.size+1+1):=fun hk=>by have:=(own_lo H.out hk).1;omega
 have nbox:¬ own E L0 w2.heap.size:=fun hk=>by have:=(own_lo H.out hk).2;omega
 have HW:∀ W,Below w2.heap.size w2 W→PH E W L0 h0 0:=fun W hW=>H.out.below hW
 replace HW:=Lib.hid HW
 have lw0:=cell_lt a0
 have lw2:=cell_lt a2'
 have lw0a:w.heap.size < w2.heap.size+1:=by omega
 have lw0b:w.heap.size < w2.heap.size+1+1:=by omega
 have lw2a:w.heap.size+1 < w2.heap.size+1:=by omega
 have lw2b:w.heap.size+1 < w2.heap.size+1+1:=by omega
 go_wp2_with fail
 refine (runsP (HW.out _ (by exact Rd.byB)) _ _ _ _ r (firstP (HW.out _ (by exact Rd.byB)) k (by rw [hE.out.1];exact hk) _ _ _ _ (.slice va2 nl vcap) r (by go_simp) (by rw [hE.out.2.2.2.2];go_simp) (by rw [← HEN.out];go_simp) (by go_simp) (fun W mv hW hmv=>?hC)) (fun o h' e=>by have:=HCO.out;rw [e] at this;exact this.2)).mono ?_
 case hC =>
  rw [hE.out.1] at hmv
  have hW2:Below w2.heap.size w2 W:=Below.trans (by exact Rd.byB) (hW.mono (by simp <;> omega))
  exact HIV.out E ⟨hE.out.1,hE.out.2.1,hE.out.2.2.1⟩ W mv _ (HW.out _ hW2) hmv (V.out.next (Kp.of_below (X:=fun _=>False) hW2 (Nat.le_refl _)) (fun _ _ e=>e.elim) (fun _ _ e=>e))
 rintro e w4 ⟨rfl,K4,vo,B4,R4⟩
 obtain ⟨oa,oc,rfl⟩:=row_any R4
 have b0:=K4.cell (c:=w2.heap.size) (o:=0) (v:=.pointer (some ⟨E.hb,0,none⟩)) (by go_simp) nbox
 have z0:=K4.cell (c:=w.heap.size+1+1) (o:=0) (v:=.int .i64 0) (by go_simp) nres
 have g0:=K4.frz (c:=w.heap.size+1+1) (o:=0) (b:=false) (by go_simp) (by simp;omega) nres
 have z1:=K4.cell (c:=w.heap.size+1+1) (o:=1) (v:=.int .i64 0) (by go_simp) nres
 have g1:=K4.frz (c:=w.heap.size+1+1) (o:=1) (b:=false) (by go_simp) (by simp;omega) nres
 have z2:=K4.cell (c:=w.heap.size+1+1) (o:=2) (v:=.int .i64 0) (by go_simp) nres
 have g2:=K4.frz (c:=w.heap.size+1+1) (o:=2) (b:=false) (by go_simp) (by simp;omega) nres
 have z3:=K4.cell (c:=w.heap.size+1+1) (o:=3) (v:=.slice none 0 0) (by go_simp) nres
 have g3:=K4.frz (c:=w.heap.size+1+1) (o:=3) (b:=false) (by go_simp) (by simp;omega) nres
 have z4:=K4.cell (c:=w.heap.size+1+1) (o:=4) (v:=.int .i64 0) (by go_simp) nres
 have g4:=K4.frz (c:=w.heap.size+1+1) (o:=4) (b:=false) (by go_simp) (by simp;omega) nres
 have z5:=K4.cell (c:=w.heap.size+1+1) (o:=5) (v:=.int .i64 0) (by go_simp) nres
 have g5:=K4.frz (c:=w.heap.size+1+1) (o:=5) (b:=false) (by go_simp) (by simp;omega) nres
 have e2:=(B4 2 (by simp)).1
 have e3:=(B4 3 (by simp)).1
 have e4:=(B4 4 (by simp)).1
 have e5:=(B4 5 (by simp)).1
 have e6:=(B4 6 (by simp)).1
 have e7:=(B4 7 (by simp)).1
 simp only [List.getElem_cons_zero,List.getElem_cons_succ] at e2 e3 e4 e5 e6 e7
 have hK4:=Lib.hid K4
 have hR4:=Lib.hid R4
 have hlb:=cell_lt b0
 have hlz:=cell_lt z0
 have hle:=cell_lt e2
 have hnr:E.hb≠w.heap.size+1+1:=fun e=>nres (.inl e.symm)
 have hnr2:=hnr.symm
 clear K4 R4 B4 y0 f0 y1 f1 y2 f2 y3 f3 y4 f4 y5 f5
 go_wp2_with fail
 refine bodyPost_ret (v:=.tuple #[.agg #[.int .i64 (shown r).fin,.int .i64 (shown r).value,.int .i64 (shown r).cls,.slice oa (shown r).out.length oc,.int .i64 (shown r).used,.int .i64 (shown r).steps],.int .i64 0]) (by simp [results,Try.results5,go_sem] <;> go_simp) rfl ?_
 have K:∀ (W:World) (j:Nat) (u:Value),Kp (fun k=>k=w.heap.size+1+1) w4 W→Kp (fun k=>k=w.heap.size+1+1) w4 (W.setCell ⟨w.heap.size+1+1,j,none⟩ u):=fun W j u K=>K.setCell (p:=⟨w.heap.size+1+1,j,none⟩) (.inl rfl) u
 have KK:=K _ 5 (.int .i64 (shown r).steps) (K _ 4 (.int .i64 (shown r).used) (K _ 3 (.slice oa (shown r).out.length oc) (K _ 2 (.int .i64 (shown r).cls) (K _ 1 (.int .i64 (shown r).value) (K _ 0 (.int .i64 (shown r).fin) (Kp.refl _ w4))))))
 have KA:Kp (fun k=>w.heap.size≤k) w w4:=((Kp.of_below (X:=fun k=>w.heap.size≤k) hbw2 (Nat.le_refl _)).trans ((Kp.refl (fun _=>False) w2).alloc _ |>.alloc _) (fun _ e=>e.elim)).trans hK4.out (fun y hy=>.inl (by have:=(own_lo H.out hy).1;omega))
 refine ⟨_,rfl,⟨_,rfl,row_low (row_keep hR4.out KK (fun g hg e=>?_)) (by omega)⟩,(KA.trans KK (fun y hy=>.inl (by omega))).below (Nat.le_refl _) (fun _ e=>e)⟩
 have:=(World.ownsRow.lt hR4.out g hg).1
 omega
def rrunPlay (f:Fi) (entry:Int) (args input:List Int) (fuel:Int):Sh × Int:=if Rform.rmay f=true then Run.play RM f entry args input fuel else (Sh.nil,2)
theorem rrun {vf va vi:Value}{input args:List Int}{entry fuel:Int}(Hf:VFi w w.heap.size vf f) (hi:Sl 1 EInt w w.heap.size vi input) (ha:Sl 1 EInt w w.heap.size va args) :
  Calls Try.prog 5 #[vf,.int .i64 entry,va,vi,.int .i64 fuel] w (RunA w (rrunPlay f entry args input fuel).1 (rrunPlay f entry args input fuel).2):=by
 unfold rrunPlay
 cases hmay:Rform.rmay f
 ·rw [if_neg (by simp)]
  exact runN Hf hmay entry fuel
 rw [if_pos rfl]
 have S:=fiR_of hmay
 have hn:∀ m∈f.methods,∀ i∈m.code,Ok i.n:=by
  intro m hm i hi
  obtain ⟨_,_,_,_,hms⟩:=Hf
  obtain ⟨_,_,_,_,_,hel⟩:=hms
  obtain ⟨k,hk,rfl⟩:=List.getElem_of_mem hm
  obtain ⟨_,_,_,_,vp,vco,vh,_,_,_,_,_,_,_,_,_,_,hco,_⟩:=hel k hk
  obtain ⟨_,_,_,_,_,hec⟩:=hco
  obtain ⟨j,hj,rfl⟩:=List.getElem_of_mem hi
  obtain ⟨_,_,_,_,_,_,_,_,_,ho,_⟩:=hec j hj
  exact ho.2.2.2.2
 have hin:∀ x∈input,Ok x:=by
  intro x hx
  obtain ⟨_,_,_,_,_,hel⟩:=hi
  obtain ⟨k,hk,rfl⟩:=List.getElem_of_mem hx
  obtain ⟨_,_,_,_,_,h⟩:=hel k hk
  exact h
 have har:∀ x∈args,Ok x:=by
  intro x hx
  obtain ⟨_,_,_,_,_,hel⟩:=ha
  obtain ⟨k,hk,rfl⟩:=List.getElem_of_mem hx
  obtain ⟨_,_,_,_,_,h⟩:=hel k hk
  exact h
 have out:∀ c:Int,c≠0→begin_ f entry args input fuel=c→(∀ W,Below w.heap.size w W→Calls Try.prog 15 #[vf,.int .i64 entry,va,vi,.int .i64 fuel] W (BeginE W c))→Calls Try.prog 5 #[vf,.int .i64 entry,va,vi,.int .i64 fuel] w (RunA w (Run.play RM f entry args input fuel).1 (Run.play RM f entry args input fuel).2):=fun c h0 he h=>by
  have e:Run.play RM f entry args input fuel=(Sh.nil,c):=by unfold Run.play;rw [he,if_pos h0]
  rw [e]
  exact runE Hf hmay entry fuel c h0 h
 by_cases b0:entry < 0∨(f.methods.length:Int)≤entry∨fuel < 0∨60000 < fuel
 ·exact out 4 (by decide) (by unfold begin_;rw [if_pos b0]) (fun W hW=>begin1 (Hf.mono hW hW.size) entry fuel b0)
 by_cases h3:1000 < input.length
 ·exact out 1 (by decide) (by unfold begin_;rw [if_neg b0,if_pos h3]) (fun W hW=>begin3 (Hf.mono hW hW.size) entry fuel (by omega) (by omega) (by omega) (by omega) (hi.mono mInt hW hW.size) h3)
 obtain ⟨k,rfl⟩:∃ k:Nat,entry=(k:Int):=⟨entry.toNat,by omega⟩
 have hk:k < f.methods.length:=by omega
 have q3:¬ fuel < 0:=by omega
 have q4:¬ 60000 < fuel:=by omega
 have em:f.methods[k]=meAt f k:=by unfold meAt;rw [List.getD_eq_getElem?_getD,List.getElem?_eq_getElem hk];rfl
 have M:=S.mes _ (List.getElem_mem hk)
 have ek:((k:Int)).toNat=k:=by omega
 by_cases h4:args.length=(f.methods[k]).params.length
 ·cases hany:(f.methods[k]).params.any (fun t=>decide (t.kind=3))
  ·have hb0:begin_ f k args input fuel=0:=by unfold begin_;rw [if_neg b0,if_neg h3,ek,← em,if_neg (by rw [hany];simp [h4])]
   have e:Run.play RM f k args input fuel=(shown (call RM f input fuel.toNat (fuel.toNat+1) 0 (meAt f k) (List.zipWith argOf (f.methods[k]).params args) h0),0):=by unfold Run.play;rw [hb0,if_neg (by simp),ek,← em];rfl
   rw [e]
   refine runO S (rm_ok S hn hin) Hf hmay k hk q3 q4 hi (by omega) ha h4 hany (fun v hv=>?_)
   obtain ⟨i,hi2,rfl⟩:=List.getElem_of_mem hv
   rw [List.getElem_zipWith]
   simp only [List.length_zipWith] at hi2
   have ht:=M.params.2 _ (List.getElem_mem (show i < (f.methods[k]).params.length by omega))
   refine argOf_vt ht (fun e3=>?_) (har _ (List.getElem_mem _))
   have:=List.any_eq_false.1 hany _ (List.getElem_mem (show i < (f.methods[k]).params.length by omega))
   simp [e3] at this
  ·obtain ⟨vc,vm,rfl,hc,hm⟩:=id Hf
   have hty:∀ t∈(f.methods[k]).params,t.kind=1∨t.kind=2∨t.kind=3:=fun t ht=>by
    have:=M.params.2 t ht
    unfold Hier.ty at this
    split at this
    ·rename_i q;omega
    ·split at this
     ·rename_i q;omega
     ·cases this
   refine out 3 (by decide) (by unfold begin_;rw [if_neg b0,if_neg h3,ek,← em,if_pos (.inr hany)]) (fun W hW=>(begin5 (hc.mono mCls hW (Nat.le_refl _)) (hm.mono mMe hW (Nat.le_refl _)) hW.size k hk fuel q3 q4 (hi.mono mInt hW (Nat.le_refl _)) (by omega) (ha.mono mInt hW (Nat.le_refl _)) h4 M.params.1 hty).mono fun e w' h=>?_)
   unfold BegR at h
   rw [if_pos hany] at h
   exact h
 ·exact out 3 (by decide) (by unfold begin_;rw [if_neg b0,if_neg h3,ek,← em,if_pos (.inl h4)]) (fun W hW=>begin4 (Hf.mono hW hW.size) (Nat.le_refl _) k hk fuel q3 q4 (hi.mono mInt hW hW.size) (by omega) (ha.mono mInt hW hW.size) h4)
end
end Hpr
namespace Lo
open Num Rd D Run Mem HierW
def IS (w:World) (v:Value) (l:List Int):Prop:=∃ (a:Option Addr) (cap:Nat),v=.slice a l.length cap∧l.length≤cap∧cap≤9223372036854775807∧∀ i (h:i < l.length),∃ b o,a=some ⟨b,o,none⟩∧w.cell? ⟨b,o+i,none⟩=some (.int .i64 l[i])
theorem IS.below {w w':World}{v:Value}{l:List Int}(h:IS w v l) (hb:Below w.heap.size w w'):IS w' v l:=by
 obtain ⟨a,cap,h1,h2,h3,h4⟩:=h
 refine ⟨a,cap,h1,h2,h3,fun i hi=>?_⟩
 obtain ⟨b,o,e,c⟩:=h4 i hi
 exact ⟨b,o,e,kept hb (cell_lt c) c⟩
theorem IS.of_row {w:World}{B:Nat}{v:Value}{l:List Int}(h:w.ownsRow B 2 1 v l.length (l.map (.int .i64 ·))):IS w v l:=by
 by_cases h0:0 < l.length
 ·obtain ⟨g,cap,hv,c1,c2,_,_⟩:=row_form h h0
  rw [hv] at h ⊢
  refine ⟨_,cap,rfl,c1,c2,fun i hi=>⟨g,0,rfl,?_⟩⟩
  rw [Nat.zero_add]
  exact row_cell h (by simp [hi])
 ·have hl:l=[]:=List.eq_nil_of_length_eq_zero (by omega)
  subst hl
  rcases h.2 with ⟨hn,_⟩ | ⟨g,cap',cur,hv',_,_,_,hm,_⟩
  ·rw [hn];exact ⟨none,0,rfl,Nat.le_refl _,by omega,fun i hi=>absurd hi (by simp)⟩
  ·rw [hv'];exact ⟨_,cap',rfl,Nat.zero_le _,by unfold maxLen at hm;exact hm,fun i hi=>absurd hi (by simp)⟩
def ShR (w:World) (s:Sh) (v:Value):Prop:=∃ vo,v=.agg #[.int .i64 s.fin,.int .i64 s.value,.int .i64 s.cls,vo,.int .i64 s.used,.int .i64 s.steps]∧IS w vo s.out
theorem ShR.below {w w':World}{s:Sh}{v:Value}(h:ShR w s v) (hb:Below w.heap.size w w'):ShR w' s v:=by
 obtain ⟨vo,e,h⟩:=h
 exact ⟨vo,e,h.below hb⟩
end Lo
namespace Run
open D Num
def Res.hp {α:Type}:Res α→Hp
 | .ok _ h=>h
 | .thrown _ h=>h
 | .stop _ h=>h
def Act.hp {Fr:Type}:Act Fr→Hp
 | .go _ h=>h
 | .back _ h=>h
 | .thrown _ h=>h
 | .stop _ h=>h
 | .call _ _ _ h=>h
def Grow (h0 h:Hp):Prop:=h0.out <+: h.out∧h.steps=h0.steps
theorem Grow.refl (h:Hp):Grow h h:=⟨List.prefix_rfl,rfl⟩
theorem Grow.trans {a b c:Hp}(h:Grow a b) (k:Grow b c):Grow a c:=⟨h.1.trans k.1,k.2.trans h.2⟩
def ActG {Fr:Type}(h0:Hp) (a:Act Fr):Prop:=Grow h0 a.hp∧∀ e h,a=.stop e h→e≠0
def ResG {α:Type}(h0:Hp) (r:Res α):Prop:=Grow h0 r.hp∧∀ e h,r=.stop e h→e≠0
theorem act_g {Fr α:Type}{h0:Hp}{r:Res α}{k:α→Hp→Act Fr}(hr:ResG h0 r) (hk:∀ a h,Grow h0 h→ActG h0 (k a h)):ActG h0 (r.act k):=by
 cases r with
 | ok a h=>exact hk a h hr.1
 | thrown o h=>exact ⟨hr.1,fun e h' x=>by cases x⟩
 | stop e h=>exact ⟨hr.1,fun e' h' x=>by injection x with x1 x2;subst x1;exact hr.2 e h rfl⟩
theorem stop_g {Fr:Type}{h0 h:Hp}(hg:Grow h0 h){e:Int}(he:e≠0):ActG h0 (.stop e h:Act Fr):=⟨hg,fun e' h' x=>by injection x with x1 x2;subst x1;exact he⟩
theorem go_g {Fr:Type}{h0 h:Hp}(hg:Grow h0 h) (fr:Fr):ActG h0 (.go fr h):=⟨hg,fun e' h' x=>by cases x⟩
theorem rstop_g {α:Type}{h0 h:Hp}(hg:Grow h0 h){e:Int}(he:e≠0):ResG h0 (.stop e h:Res α):=⟨hg,fun e' h' x=>by injection x with x1 x2;subst x1;exact he⟩
theorem rok_g {α:Type}{h0 h:Hp}(hg:Grow h0 h) (a:α):ResG h0 (.ok a h):=⟨hg,fun e' h' x=>by cases x⟩
theorem rthrown_g {α:Type}{h0 h:Hp}(hg:Grow h0 h) (o:Nat):ResG h0 (.thrown o h:Res α):=⟨hg,fun e' h' x=>by cases x⟩
section
variable (l:List Cls) (h:Hp)
theorem new_g (c:Int):ResG h (new l c h):=by
 unfold new;split
 ·exact rstop_g (Grow.refl _) (by decide)
 ·exact rok_g (h0:=h) (by exact ⟨List.prefix_rfl,rfl⟩) _
theorem raise_g {α:Type}(c:Int):ResG h (raise l c h:Res α):=by
 unfold raise new;split
 ·exact rstop_g (Grow.refl _) (by decide)
 ·exact rthrown_g (h0:=h) (by exact ⟨List.prefix_rfl,rfl⟩) _
theorem throw_g {α:Type}(v:Vl):ResG h (throw l v h:Res α):=by
 unfold throw;split
 ·exact rstop_g (Grow.refl _) (by decide)
 ·split
  ·exact raise_g l h _
  ·exact rthrown_g (Grow.refl _) _
theorem get_g (v:Vl) (c k:Int):ResG h (get l v c k h):=by
 unfold get;split
 ·exact rstop_g (Grow.refl _) (by decide)
 ·split
  ·exact raise_g l h _
  ·exact rok_g (Grow.refl _) _
theorem put_g (r:Vl) (c k:Int) (v:Vl) (t:Ty):ResG h (put l r c k v t h):=by
 unfold put;split
 ·exact rstop_g (Grow.refl _) (by decide)
 ·split
  ·exact rstop_g (Grow.refl _) (by decide)
  ·split
   ·exact raise_g l h _
   ·exact rok_g (h0:=h) (by exact ⟨List.prefix_rfl,rfl⟩) _
theorem cast_g (v:Vl) (c:Int):ResG h (cast l v c h):=by
 unfold cast;split
 ·exact rstop_g (Grow.refl _) (by decide)
 ·split
  ·exact raise_g l h _
  ·exact rok_g (Grow.refl _) _
theorem isV_g (v:Vl) (c:Int):ResG h (isV l v c h):=by
 unfold isV;split
 ·exact rstop_g (Grow.refl _) (by decide)
 ·exact rok_g (Grow.refl _) _
theorem reckon_g (a b:Vl) (kind op:Int):ResG h (reckon l a b kind op h):=by
 unfold reckon;split
 ·exact rstop_g (Grow.refl _) (by decide)
 ·split
  ·exact raise_g l h _
  ·exact rok_g (Grow.refl _) _
theorem emit_g (v:Vl) (kind:Int):ResG h (emit v kind h):=by
 unfold emit;split
 ·exact rstop_g (Grow.refl _) (by decide)
 ·exact rok_g (h0:=h) (by exact ⟨List.prefix_append _ _,rfl⟩) _
theorem takeIn_g (input:List Int):ResG h (takeIn input h):=by
 unfold takeIn;split
 ·exact rstop_g (Grow.refl _) (by decide)
 ·exact rok_g (h0:=h) (by exact ⟨List.prefix_rfl,rfl⟩) _
end
section
variable {f:Fi}{input:List Int}{m:Me}{i:Ins}{fr:Sf}{h0 h:Hp}
end
section
variable {f:Fi}{input:List Int}{m:Me}{i:Ins}{fr:Rf}{h0 h:Hp}
theorem rkind_g (hg:Grow h0 h){v:Vl}{kind:Int}{k:Act Rf}(hk:ActG h0 k):ActG h0 (rkind v kind h k):=by
 unfold rkind;split
 ·exact hk
 ·exact stop_g hg (by decide)
theorem rstep_g:ActG h (rstep f input m i fr h):=by
 have G:=Grow.refl h
 unfold rstep
 by_cases q:i.op=1
 ·rw [if_pos q];exact go_g G _
 rw [if_neg q];clear q
 by_cases q:i.op=2
 ·rw [if_pos q];exact go_g G _
 rw [if_neg q];clear q
 by_cases q:i.op=3
 ·rw [if_pos q];exact go_g G _
 rw [if_neg q];clear q
 by_cases q:i.op=4
 ·rw [if_pos q];exact rkind_g G (go_g G _)
 rw [if_neg q];clear q
 by_cases q:i.op=5
 ·rw [if_pos q];exact act_g (reckon_g _ _ _ _ _ _) (fun v h' g=>go_g g _)
 rw [if_neg q];clear q
 by_cases q:i.op=6
 ·rw [if_pos q];exact act_g (reckon_g _ _ _ _ _ _) (fun v h' g=>go_g g _)
 rw [if_neg q];clear q
 by_cases q:i.op=7
 ·rw [if_pos q];exact rkind_g G (go_g G _)
 rw [if_neg q];clear q
 by_cases q:i.op=8
 ·rw [if_pos q];exact rkind_g G (go_g G _)
 rw [if_neg q];clear q
 by_cases q:i.op=9
 ·rw [if_pos q];exact rkind_g G (rkind_g G (go_g G _))
 rw [if_neg q];clear q
 by_cases q:i.op=10
 ·rw [if_pos q];exact go_g G _
 rw [if_neg q];clear q
 by_cases q:i.op=11
 ·rw [if_pos q];exact rkind_g G (go_g G _)
 rw [if_neg q];clear q
 by_cases q:i.op=12
 ·rw [if_pos q];exact rkind_g G (go_g G _)
 rw [if_neg q];clear q
 by_cases q:i.op=13
 ·rw [if_pos q];exact act_g (new_g _ _ _) (fun v h' g=>go_g g _)
 rw [if_neg q];clear q
 by_cases q:i.op=14
 ·rw [if_pos q];exact rkind_g G (act_g (get_g _ _ _ _ _) (fun v h' g=>go_g g _))
 rw [if_neg q];clear q
 by_cases q:i.op=15
 ·rw [if_pos q];exact rkind_g G (rkind_g G (act_g (put_g _ _ _ _ _ _ _) (fun v h' g=>go_g g _)))
 rw [if_neg q];clear q
 by_cases q:i.op=16
 ·rw [if_pos q];exact rkind_g G (act_g (cast_g _ _ _ _) (fun v h' g=>go_g g _))
 rw [if_neg q];clear q
 by_cases q:i.op=17
 ·rw [if_pos q];exact rkind_g G (act_g (isV_g _ _ _ _) (fun v h' g=>go_g g _))
 rw [if_neg q];clear q
 by_cases q:i.op=18
 ·rw [if_pos q];clear q
  unfold r18;split
  ·exact stop_g G (by decide)
  ·exact ⟨G,fun e h' x=>by cases x⟩
 rw [if_neg q];clear q
 by_cases q:i.op=19
 ·rw [if_pos q];exact rkind_g G (go_g G _)
 rw [if_neg q];clear q
 by_cases q:i.op=20
 ·rw [if_pos q];clear q
  unfold r20;split
  ·exact ⟨G,fun e h' x=>by cases x⟩
  ·refine rkind_g G ?_
   split
   ·exact ⟨G,fun e h' x=>by cases x⟩
   ·exact stop_g G (by decide)
 rw [if_neg q];clear q
 by_cases q:i.op=21
 ·rw [if_pos q];exact rkind_g G (act_g (throw_g _ _ _) (fun _ h' g=>stop_g g (by decide)))
 rw [if_neg q];clear q
 by_cases q:i.op=22
 ·rw [if_pos q];exact rkind_g G (go_g G _)
 rw [if_neg q];clear q
 by_cases q:i.op=23
 ·rw [if_pos q];exact rkind_g G (act_g (emit_g _ _ _) (fun _ h' g=>go_g g _))
 rw [if_neg q];clear q
 by_cases q:i.op=24
 ·rw [if_pos q];exact act_g (takeIn_g _ _) (fun v h' g=>go_g g _)
 rw [if_neg q];clear q
 exact stop_g G (by decide)
end
def Lgr (a:Nat) (h0:Hp) (r r':Res Vl):Prop :=
 (h0.out <+: r.hp.out∧h0.steps≤r.hp.steps∧r.hp.steps≤a∧h0.out <+: r'.hp.out∧h0.steps≤r'.hp.steps) ∧
 ((r=r'∧∀ h,r≠.stop 0 h)∨(∃ h1,r=.stop 0 h1∧h1.steps=a∧h1.out <+: r'.hp.out∧a≤r'.hp.steps))
theorem Lgr.from {a:Nat}{h0 h1:Hp}{r r':Res Vl}(h:Lgr a h1 r r') (h2:h0.out <+: h1.out) (h3:h0.steps≤h1.steps):Lgr a h0 r r':=by
 obtain ⟨⟨a1,a2,a3,a4,a5⟩,b⟩:=h
 exact ⟨⟨h2.trans a1,by omega,a3,h2.trans a4,by omega⟩,b⟩
theorem Lgr.same {a:Nat}{h0:Hp}{r:Res Vl}(h1:h0.out <+: r.hp.out) (h2:h0.steps≤r.hp.steps) (h3:r.hp.steps≤a) (h4:∀ h,r≠.stop 0 h):Lgr a h0 r r:=⟨⟨h1,h2,h3,h1,h2⟩,.inl ⟨rfl,h4⟩⟩
theorem loop_grow {Fr:Type}(M:Mach Fr) (hM:∀ f input m i fr h,ActG h (M.step f input m i fr h)) (f:Fi) (input:List Int) (fuel:Nat) :
  ∀ (g d:Nat) (m:Me) (fr:Fr) (h:Hp),h.out <+: (loop M f input fuel g d m fr h).hp.out∧h.steps≤(loop M f input fuel g d m fr h).hp.steps:=by
 intro g
 induction g with
 | zero=>intro d m fr h;exact ⟨List.prefix_rfl,Nat.le_refl _⟩
 | succ g ih =>
  intro d m fr h
  have step:∀ {r:Res Vl}{h1:Hp},(h.out <+: h1.out∧h.steps≤h1.steps)→(h1.out <+: r.hp.out∧h1.steps≤r.hp.steps)→(h.out <+: r.hp.out∧h.steps≤r.hp.steps):=fun p q=>⟨p.1.trans q.1,Nat.le_trans p.2 q.2⟩
  rw [loop]
  split
  ·exact ⟨List.prefix_rfl,Nat.le_refl _⟩
  ·split
   ·exact ⟨List.prefix_rfl,Nat.le_succ _⟩
   ·rename_i i hi
    have hg:=(hM f input m i fr { h with steps:=h.steps+1 }).1
    cases hc:M.step f input m i fr { h with steps:=h.steps+1 } with
    | stop e h'=>rw [hc] at hg;exact ⟨hg.1,by have:=hg.2;simp only [Act.hp] at this;show _≤h'.steps;omega⟩
    | back v h'=>rw [hc] at hg;exact ⟨hg.1,by have:=hg.2;simp only [Act.hp] at this;show _≤h'.steps;omega⟩
    | go fr' h'=>rw [hc] at hg;exact step (h1:=h') ⟨hg.1,by have:=hg.2;simp only [Act.hp] at this;omega⟩ (ih d m fr' h')
    | thrown o h' =>
     rw [hc] at hg
     have h1:h.out <+: h'.out∧h.steps≤h'.steps:=⟨hg.1,by have:=hg.2;simp only [Act.hp] at this;omega⟩
     simp only
     cases after M f m fr o h' with
     | go fr'=>exact step h1 (ih d m fr' h')
     | thrown=>exact h1
     | stuck=>exact h1
    | call k args fr' h' =>
     rw [hc] at hg
     have h1:h.out <+: h'.out∧h.steps≤h'.steps:=⟨hg.1,by have:=hg.2;simp only [Act.hp] at this;omega⟩
     simp only
     split
     ·exact h1
     ·split
      ·exact h1
      ·have hin:=ih (d+1) (meAt f k) (M.enter (meAt f k) args) h'
       cases hr:loop M f input fuel g (d+1) (meAt f k) (M.enter (meAt f k) args) h' with
       | stop e' h2=>rw [hr] at hin;exact step h1 hin
       | ok v h2 =>
        rw [hr] at hin
        simp only
        cases M.resume m (meAt f k) fr' v with
        | none=>exact step h1 hin
        | some fr2=>exact step (step (r:=.ok v h2) h1 hin) (ih d m fr2 h2)
       | thrown o h2 =>
        rw [hr] at hin
        simp only
        cases after M f m fr' o h2 with
        | go fr2=>exact step (step (r:=.ok Vl.nil h2) h1 hin) (ih d m fr2 h2)
        | thrown=>exact step h1 hin
        | stuck=>exact step h1 hin
theorem loop_longer {Fr:Type}(M:Mach Fr) (hM:∀ f input m i fr h,ActG h (M.step f input m i fr h)) (f:Fi) (input:List Int) (a b:Nat) (hab:a≤b) :
  ∀ (g g' d:Nat) (m:Me) (fr:Fr) (h:Hp),a < g+h.steps→b < g'+h.steps→h.steps≤a→Lgr a h (loop M f input a g d m fr h) (loop M f input b g' d m fr h):=by
 intro g
 induction g with
 | zero=>intro g' d m fr h h1 h2 h3;omega
 | succ g ih =>
  intro g' d m fr h h1 h2 h3
  cases g' with
  | zero=>omega
  | succ g' =>
   by_cases hs:a≤h.steps
   ·have hg:=loop_grow M hM f input b (g'+1) d m fr h
    rw [loop,if_pos hs]
    exact ⟨⟨List.prefix_rfl,Nat.le_refl _,h3,hg⟩,.inr ⟨h,rfl,by omega,hg.1,by have:=hg.2;omega⟩⟩
   ·rw [loop,loop,if_neg hs,if_neg (by omega)]
    cases hi:m.code[M.at_ fr]? with
    | none=>exact Lgr.same List.prefix_rfl (Nat.le_succ _) (by show h.steps+1≤a;omega) (fun h' x=>by injection x with x;cases x)
    | some i =>
     have hg:=(hM f input m i fr { h with steps:=h.steps+1 })
     simp only
     cases hc:M.step f input m i fr { h with steps:=h.steps+1 } with
     | stop e h' =>
      rw [hc] at hg
      obtain ⟨⟨g1,g2⟩,g3⟩:=hg
      simp only [Act.hp] at g1 g2
      exact Lgr.same g1 (by show _≤h'.steps;omega) (by show h'.steps≤a;omega) (fun h2 x=>by injection x with x1 x2;exact g3 e h' rfl x1)
     | back v h' =>
      rw [hc] at hg
      obtain ⟨⟨g1,g2⟩,g3⟩:=hg
      simp only [Act.hp] at g1 g2
      exact Lgr.same g1 (by show _≤h'.steps;omega) (by show h'.steps≤a;omega) (fun h2 x=>by cases x)
     | go fr' h' =>
      rw [hc] at hg
      obtain ⟨⟨g1,g2⟩,g3⟩:=hg
      simp only [Act.hp] at g1 g2
      exact (ih g' d m fr' h' (by omega) (by omega) (by omega)).from g1 (by omega)
     | thrown o h' =>
      rw [hc] at hg
      obtain ⟨⟨g1,g2⟩,g3⟩:=hg
      simp only [Act.hp] at g1 g2
      simp only
      cases after M f m fr o h' with
      | go fr'=>exact (ih g' d m fr' h' (by omega) (by omega) (by omega)).from g1 (by omega)
      | thrown=>exact Lgr.same g1 (by show _≤h'.steps;omega) (by show h'.steps≤a;omega) (fun h2 x=>by cases x)
      | stuck=>exact Lgr.same g1 (by show _≤h'.steps;omega) (by show h'.steps≤a;omega) (fun h2 x=>by injection x with x;cases x)
     | call k args fr' h' =>
      rw [hc] at hg
      obtain ⟨⟨g1,g2⟩,g3⟩:=hg
      simp only [Act.hp] at g1 g2
      simp only
      cases hall:allOf f.classes h' args (meAt f k).params
      ·simp only [if_true]
       exact Lgr.same g1 (by show _≤h'.steps;omega) (by show h'.steps≤a;omega) (fun h2 x=>by injection x with x;cases x)
      ·have nf:¬ (true=false):=by simp
       rw [if_neg nf,if_neg nf]
       by_cases hd:20≤d
       ·rw [if_pos hd,if_pos hd]
        exact Lgr.same g1 (by show _≤h'.steps;omega) (by show h'.steps≤a;omega) (fun h2 x=>by injection x with x;cases x)
       ·rw [if_neg hd,if_neg hd]
        obtain ⟨⟨c1,c2,c3,c4,c5⟩,hin⟩:=ih g' (d+1) (meAt f k) (M.enter (meAt f k) args) h' (by omega) (by omega) (by omega)
        rcases hin with ⟨heq,hne⟩ | ⟨hx,hx1,hx2,hx3,hx4⟩
        ·rw [← heq]
         cases hr:loop M f input a g (d+1) (meAt f k) (M.enter (meAt f k) args) h' with
         | stop e' h2 =>
          rw [hr] at c1 c2 c3 hne
          refine Lgr.same (g1.trans c1) ?_ c3 (fun h3 x=>?_)
          ·simp only [Res.hp] at c2 ⊢;omega
          ·injection x with x1 x2;subst x1;exact hne _ rfl
         | ok v h2 =>
          rw [hr] at c1 c2 c3
          simp only [Res.hp] at c1 c2 c3
          simp only
          cases M.resume m (meAt f k) fr' v with
          | none=>exact Lgr.same (g1.trans c1) (by show _≤h2.steps;omega) c3 (fun h2 x=>by injection x with x;cases x)
          | some fr2=>exact (ih g' d m fr2 h2 (by omega) (by omega) (by omega)).from (g1.trans c1) (by omega)
         | thrown o h2 =>
          rw [hr] at c1 c2 c3
          simp only [Res.hp] at c1 c2 c3
          simp only
          cases after M f m fr' o h2 with
          | go fr2=>exact (ih g' d m fr2 h2 (by omega) (by omega) (by omega)).from (g1.trans c1) (by omega)
          | thrown=>exact Lgr.same (g1.trans c1) (by show _≤h2.steps;omega) c3 (fun h2 x=>by cases x)
          | stuck=>exact Lgr.same (g1.trans c1) (by show _≤h2.steps;omega) c3 (fun h2 x=>by injection x with x;cases x)
        ·rw [hx1]
         rw [hx1] at c1 c2 c3
         simp only [Res.hp] at c1 c2 c3
         suffices hfin:∀ r':Res Vl,((loop M f input b g' (d+1) (meAt f k) (M.enter (meAt f k) args) h').hp.out <+: r'.hp.out∧(loop M f input b g' (d+1) (meAt f k) (M.enter (meAt f k) args) h').hp.steps≤r'.hp.steps)→Lgr a h (.stop 0 hx) r' by
          cases hr:loop M f input b g' (d+1) (meAt f k) (M.enter (meAt f k) args) h' with
          | stop e' h2=>exact hfin _ (by rw [hr];exact ⟨List.prefix_rfl,Nat.le_refl _⟩)
          | ok v h2 =>
           simp only
           cases M.resume m (meAt f k) fr' v with
           | none=>exact hfin _ (by rw [hr];exact ⟨List.prefix_rfl,Nat.le_refl _⟩)
           | some fr2=>exact hfin _ (by rw [hr];exact loop_grow M hM f input b g' d m fr2 h2)
          | thrown o h2 =>
           simp only
           cases after M f m fr' o h2 with
           | go fr2=>exact hfin _ (by rw [hr];exact loop_grow M hM f input b g' d m fr2 h2)
           | thrown=>exact hfin _ (by rw [hr];exact ⟨List.prefix_rfl,Nat.le_refl _⟩)
           | stuck=>exact hfin _ (by rw [hr];exact ⟨List.prefix_rfl,Nat.le_refl _⟩)
         intro r' hr'
         refine ⟨⟨g1.trans c1,by show h.steps≤hx.steps;omega,by show hx.steps≤a;omega,(g1.trans c4).trans hr'.1,by have:=hr'.2;omega⟩,.inr ⟨hx,rfl,hx2,hx3.trans hr'.1,by have:=hr'.2;omega⟩⟩
end Run
namespace Run
open D Num
def LongP (a b:Sh) (few:Int):Prop:=(a.fin=0∧a.steps=few∧few≤b.steps∧a.out <+: b.out)∨(a.fin≠0∧a=b)
theorem shown_long {a:Nat}{h0:Hp}{r r':Res Vl}(h:Lgr a h0 r r'):LongP (shown r) (shown r') a:=by
 obtain ⟨_,h | h⟩:=h
 ·obtain ⟨rfl,hne⟩:=h
  refine .inr ⟨?_,rfl⟩
  cases r with
  | ok v h=>simp [shown]
  | thrown o h=>simp [shown]
  | stop e h =>
   intro e0
   have:e=0:=e0
   subst this
   exact hne h rfl
 ·obtain ⟨h1,rfl,h2,h3,h4⟩:=h
  refine .inl ⟨rfl,by show (h1.steps:Int)=a;omega,?_,?_⟩
  ·cases r' <;> (simp only [Res.hp] at h4;show (a:Int)≤((_:Nat):Int);omega)
  ·cases r' <;> exact h3
theorem call_longer {Fr:Type}(M:Mach Fr) (hM:∀ f input m i fr h,ActG h (M.step f input m i fr h)) (f:Fi) (input:List Int) (a b:Nat) (hab:a≤b) (m:Me) (args:List Vl) :
  LongP (shown (call M f input a (a+1) 0 m args ⟨[],[],0,0⟩)) (shown (call M f input b (b+1) 0 m args ⟨[],[],0,0⟩)) a:=by
 unfold call
 cases hc:allOf f.classes ⟨[],[],0,0⟩ args m.params
 ·rw [if_pos rfl,if_pos rfl];exact .inr ⟨by simp [shown],rfl⟩
 ·have nf:¬ (true=false):=by simp
  have nd:¬ (20≤0):=by omega
  rw [if_neg nf,if_neg nf,if_neg nd,if_neg nd]
  exact shown_long (loop_longer M hM f input a b hab (a+1) (b+1) 1 m _ _ (by simp only;omega) (by simp only;omega) (by simp only;omega))
theorem play_longer {Fr:Type}(M:Mach Fr) (hM:∀ f input m i fr h,ActG h (M.step f input m i fr h)) (f:Fi) (entry:Int) (args input:List Int){few more:Int}(h0:0≤few) (h1:few≤more) (h2:more≤3000) :
  (play M f entry args input few).2=(play M f entry args input more).2∧((play M f entry args input few).2≠0→(play M f entry args input few).1=Sh.nil)∧((play M f entry args input few).2=0→LongP (play M f entry args input few).1 (play M f entry args input more).1 few):=by
 have hb:begin_ f entry args input few=begin_ f entry args input more:=by
  unfold begin_
  by_cases q:entry < 0∨(f.methods.length:Int)≤entry
  ·rw [if_pos (by omega),if_pos (by omega)]
  ·have e1:(entry < 0∨(f.methods.length:Int)≤entry∨few < 0∨60000 < few)↔(entry < 0∨(f.methods.length:Int)≤entry∨more < 0∨60000 < more):=by omega
   simp only [e1]
 unfold play
 rw [← hb]
 by_cases q:begin_ f entry args input few=0
 ·rw [if_neg (by simpa using q),if_neg (by simpa using q)]
  refine ⟨rfl,fun h=>absurd rfl h,fun _=>?_⟩
  have:=call_longer M hM f input few.toNat more.toNat (by omega) (meAt f entry.toNat) (List.zipWith argOf (meAt f entry.toNat).params args)
  rwa [Int.toNat_of_nonneg h0] at this
 ·rw [if_pos (by simpa using q),if_pos (by simpa using q)]
  exact ⟨rfl,fun _=>rfl,fun h=>absurd h q⟩
end Run
namespace Lo
open Num Rd D Run Mem HierW
set_option maxRecDepth 100000 in
theorem begins {w:World}{a b:List Int}{va vb:Value}(ha:IS w va a) (hb:IS w vb b) (hp:b <+: a):Calls Try.prog 19 #[va,vb] w fun e w'=>e=.returned (.bool true)∧Below w.heap.size w w':=by
 obtain ⟨aa,acap,rfl,a1,a2,ael⟩:=ha
 obtain ⟨ba,bcap,rfl,b1,b2,bel⟩:=hb
 have hle:=hp.length_le
 have hle1:¬ (a.length:Int) < b.length:=by omega
 have hle2:¬ (a.length < b.length):=by omega
 have heq:Hid (∀ i (h:i < b.length),∃ h2:i < a.length,a[i]=b[i]):=fun i h=>⟨by omega,by
  obtain ⟨t,rfl⟩:=hp
  rw [List.getElem_append_left h]⟩
 have AEL:=Lib.hid ael
 have BEL:=Lib.hid bel
 clear ael bel hp
 go_enter Try.func19,Try.ntmps19
 go_wp2
 go_loopw [5] (fun i wr=>∃ n:Nat,i=.int .i64 n∧n≤b.length∧Below w.heap.size w wr) (fun i _=>b.length - (intOf i).toNat)
 case atStart=>exact ⟨0,rfl,Nat.zero_le _,by exact Rd.byB⟩
 case round =>
  obtain ⟨n,rfl,hn,hb⟩:=hrel
  by_cases hlt:n < b.length
  ·obtain ⟨h2,he⟩:=heq.out n hlt
   obtain ⟨xb,xo,rfl,cx⟩:=AEL.out n h2
   obtain ⟨yb,yo,rfl,cy⟩:=BEL.out n hlt
   rw [he] at cx
   have cx':=kept hb (cell_lt cx) cx
   have cy':=kept hb (cell_lt cy) cy
   have l1:=cell_lt cx'
   have l2:=cell_lt cy'
   have hn1:(n:Int) < b.length:=by omega
   have hn2:(n:Int) < a.length:=by omega
   clear cx cy he
   go_wp2
   go_quiet (fail)
   go_wp2
   go_roundw
   case rel=>exact ⟨n+1,by go_num,by omega,by exact Rd.byB⟩
   case measure=>simp [intOf];omega
  ·obtain rfl:n=b.length:=by omega
   go_wp2
   go_ret
   exact ⟨rfl,hb⟩
set_option maxRecDepth 100000 in
theorem longer {w:World}{a b:Sh}{va vb:Value}{few:Int}(ha:ShR w a va) (hb:ShR w b vb) (h:LongP a b few):Calls Try.prog 6 #[va,vb,.int .i64 few] w fun e w'=>e=.returned (.bool true)∧Below w.heap.size w w':=by
 obtain ⟨oa,rfl,ia⟩:=ha
 obtain ⟨ob,rfl,ib⟩:=hb
 obtain ⟨aa,acap,rfl,a1,a2,ael⟩:=id ia
 obtain ⟨ba,bcap,rfl,b1,b2,bel⟩:=id ib
 have IA:=Lib.hid ia
 have IB:=Lib.hid ib
 clear ia ib ael bel
 rcases h with ⟨h1,h2,h3,h4⟩ | ⟨h1,rfl⟩
 ·have e1:(a.fin==0)=true:=by simpa using h1
  have e2:(a.steps==few)=true:=by simpa using h2
  have H4:=Lib.hid h4
  clear h4 h1 h2
  go_enter Try.func6,Try.ntmps6
  go_wp2_with (go_at_call 19;refine (begins (IB.out.below (by exact Rd.byB)) (IA.out.below (by exact Rd.byB)) H4.out).mono ?_;rintro e w2 ⟨rfl,hb2⟩;have hbw:Below w.heap.size w w2:=Below.trans (by exact Rd.byB) (hb2.mono Rd.byL))
  go_ret
  exact ⟨rfl,hbw⟩
 ·have e1:(a.fin==0)=false:=by simpa using h1
  have H4:=Lib.hid (List.prefix_refl a.out)
  clear h1
  have hself:∀ x:Int,(x==x)=true:=fun x=>by simp
  go_enter Try.func6,Try.ntmps6
  go_wp2_with fail
  refine (begins (IA.out.below (by exact Rd.byB)) (IB.out.below (by exact Rd.byB)) H4.out).mono ?_
  rintro e w2 ⟨rfl,hb2⟩
  have y0:w2.cell? ⟨w.heap.size,3,none⟩=some (.slice aa a.out.length acap):=kept hb2 Rd.byL (by go_simp)
  have y1:w2.cell? ⟨w.heap.size+1,3,none⟩=some (.slice ba a.out.length bcap):=kept hb2 Rd.byL (by go_simp)
  have hbw:Below w.heap.size w w2:=Below.trans (by exact Rd.byB) (hb2.mono Rd.byL)
  clear hb2
  go_wp2_with fail
  refine (begins (IB.out.below hbw) (IA.out.below hbw) H4.out).mono ?_
  rintro e w3 ⟨rfl,hb3⟩
  have hbw3:=hbw.trans (hb3.mono hbw.size)
  go_wp2
  go_ret
  exact ⟨rfl,hbw3⟩
end Lo
namespace Hpr
open Num Rd D Run Mem HierW Hpw Lo
section
theorem shR_of {w w':World}{B:Nat}{s:Sh}{v:Value}(h:ShV w B s v):ShR w s v:=by
 obtain ⟨vo,e,h⟩:=h
 exact ⟨vo,e,IS.of_row h⟩
theorem rrun_longer (f:Fi) (entry:Int) (args input:List Int){few more:Int}(h0:0≤few) (h1:few≤more) (h2:more≤3000) :
  (rrunPlay f entry args input few).2=(rrunPlay f entry args input more).2∧((rrunPlay f entry args input few).2≠0→(rrunPlay f entry args input few).1=Sh.nil)∧((rrunPlay f entry args input few).2=0→LongP (rrunPlay f entry args input few).1 (rrunPlay f entry args input more).1 few):=by
 unfold rrunPlay
 by_cases q:Rform.rmay f=true
 ·rw [if_pos q,if_pos q]
  exact play_longer RM (fun f input m i fr h=>rstep_g) f entry args input h0 h1 h2
 ·rw [if_neg q,if_neg q]
  exact ⟨rfl,fun _=>rfl,fun h=>absurd h (by decide)⟩
set_option maxRecDepth 100000 in
theorem rrunLonger (vf:Value) (f:Fi) (entry:Int) (va:Value) (args:List Int) (vi:Value) (input:List Int) (few more:Int) (w:World) (hf:VFi w w.heap.size vf f) (he:Ok entry) (ha:Sl 1 EInt w w.heap.size va args) (hi:Sl 1 EInt w w.heap.size vi input) (hfew:Ok few) (hmore:Ok more) :
  Calls Try.prog 3 #[vf,.int .i64 entry,va,vi,.int .i64 few,.int .i64 more] w fun e w'=>e=.returned (.bool true)∧Below w.heap.size w w':=by
 have HF:=Lib.hid hf
 have HA:=Lib.hid ha
 have HI:=Lib.hid hi
 obtain ⟨vc,vms,rfl,hc,hms⟩:=hf
 obtain ⟨ca,ccap,rfl,_⟩:=hc
 obtain ⟨ma,mcap,rfl,_⟩:=hms
 obtain ⟨aa,acap,rfl,_⟩:=ha
 obtain ⟨ia,icap,rfl,_⟩:=hi
 obtain ⟨n1,hn1⟩:∃ n,n=f.classes.length:=⟨_,rfl⟩
 obtain ⟨n2,hn2⟩:∃ n,n=f.methods.length:=⟨_,rfl⟩
 rw [← hn1,← hn2] at HF ⊢
 clear hn1 hn2 he hfew hmore
 by_cases q1:few < 0
 ·go_enter Try.func3,Try.ntmps3
  go_wp2
  go_ret
  exact ⟨rfl,by exact Rd.byB⟩
 by_cases q2:more < few
 ·go_enter Try.func3,Try.ntmps3
  go_wp2
  go_ret
  exact ⟨rfl,by exact Rd.byB⟩
 by_cases q3:3000 < more
 ·go_enter Try.func3,Try.ntmps3
  go_wp2
  go_ret
  exact ⟨rfl,by exact Rd.byB⟩
 have HK:=Lib.hid (rrun_longer f entry args input (few:=few) (more:=more) (by omega) (by omega) (by omega))
 obtain ⟨p,hp⟩:∃ p,Hid (rrunPlay f entry args input few=p):=⟨_,Lib.hid rfl⟩
 obtain ⟨p2,hp2⟩:∃ p,Hid (rrunPlay f entry args input more=p):=⟨_,Lib.hid rfl⟩
 rw [hp.out,hp2.out] at HK
 obtain ⟨s,c⟩:=p
 obtain ⟨s2,c2⟩:=p2
 obtain ⟨k1,k2,k3⟩:=HK.out
 simp only at k1 k2 k3
 subst k1
 replace k2:=Lib.hid k2
 replace k3:=Lib.hid k3
 clear HK
 go_enter Try.func3,Try.ntmps3
 go_wp2_with fail
 refine (rrun (HF.out.mono (by exact Rd.byB) Rd.byL) (HI.out.mono mInt (by exact Rd.byB) Rd.byL) (HA.out.mono mInt (by exact Rd.byB) Rd.byL)).mono ?_
 rw [hp.out]
 rintro e w1 ⟨v1,rfl,hsh,hb1⟩
 have b0:w1.cell? ⟨w.heap.size,0,none⟩=some (.slice ca n1 ccap):=kept hb1 Rd.byL (by go_simp)
 have b1:w1.cell? ⟨w.heap.size,1,none⟩=some (.slice ma n2 mcap):=kept hb1 Rd.byL (by go_simp)
 have hbw:Below w.heap.size w w1:=Below.trans (by exact Rd.byB) (hb1.mono Rd.byL)
 have R1:=shR_of (w':=w1) hsh
 obtain ⟨vo,rfl,io⟩:=id R1
 obtain ⟨oa,ocap,rfl,_⟩:=id io
 have hsz:=hbw.size
 have lb:=cell_lt b0
 replace R1:=Lib.hid R1
 clear hb1 hsh io
 go_wp2_with fail
 refine (rrun (HF.out.mono (hbw.trans (by exact Rd.byB)) (by simp;omega)) (HI.out.mono mInt (hbw.trans (by exact Rd.byB)) (by simp;omega)) (HA.out.mono mInt (hbw.trans (by exact Rd.byB)) (by simp;omega))).mono ?_
 rw [hp2.out]
 rintro e w2 ⟨v2,rfl,hsh,hb2⟩
 simp only at hsh
 have y0:w2.cell? ⟨w1.heap.size,0,none⟩=some (.int .i64 s.fin):=kept hb2 Rd.byL (by go_simp)
 have y1:w2.cell? ⟨w1.heap.size,1,none⟩=some (.int .i64 s.value):=kept hb2 Rd.byL (by go_simp)
 have y2:w2.cell? ⟨w1.heap.size,2,none⟩=some (.int .i64 s.cls):=kept hb2 Rd.byL (by go_simp)
 have y3:w2.cell? ⟨w1.heap.size,3,none⟩=some (.slice oa s.out.length ocap):=kept hb2 Rd.byL (by go_simp)
 have y4:w2.cell? ⟨w1.heap.size,4,none⟩=some (.int .i64 s.used):=kept hb2 Rd.byL (by go_simp)
 have y5:w2.cell? ⟨w1.heap.size,5,none⟩=some (.int .i64 s.steps):=kept hb2 Rd.byL (by go_simp)
 have hb12:Below w1.heap.size w1 w2:=Below.trans (by exact Rd.byB) (hb2.mono Rd.byL)
 have hbw2:=hbw.trans (hb12.mono hsz)
 have R2:=shR_of (w':=w2) hsh
 obtain ⟨vo2,rfl,io2⟩:=id R2
 obtain ⟨oa2,ocap2,rfl,_⟩:=id io2
 have hsz2:=hbw2.size
 have ly:=cell_lt y0
 have HB12:=Lib.hid hb12
 replace R2:=Lib.hid R2
 clear hb2 hsh io2 hb12
 by_cases qc:c=0
 ·have qb:(c != 0)=false:=by simpa using qc
  have qb2:(c==0)=true:=by simpa using qc
  have L0:=Lib.hid (k3.out qc)
  clear qc
  go_wp2_with fail
  refine (longer (R1.out.below (HB12.out.trans (by exact Rd.byB))) (R2.out.below (by exact Rd.byB)) L0.out).mono ?_
  rintro e w3 ⟨rfl,hb3⟩
  have hbw3:Below w.heap.size w w3:=hbw2.trans (Below.trans (by exact Rd.byB) (hb3.mono Rd.byL))
  clear hb3
  go_wp2
  go_ret
  exact ⟨rfl,hbw3⟩
 ·have qb:(c != 0)=true:=by simpa using qc
  have es:=k2.out qc
  have e0:s.steps=0:=by rw [es];rfl
  rw [e0] at y5
  have qself:(c==c)=true:=by simp
  go_wp2_with fail
  go_ret
  exact ⟨rfl,by exact Rd.byB⟩
end
end Hpr
end Go.Proofs.Ytncmhenfgbcihac
