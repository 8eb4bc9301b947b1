/- Parts of the proof: LookI. -/
import Derived.Test.YtncmhenfgbcihacG07
set_option linter.unusedSimpArgs false
set_option linter.unusedVariables false
set_option maxHeartbeats 8000000
namespace Go.Proofs.Ytncmhenfgbcihac
open Go.RowKit
namespace Look
open Num Rd D HierW FormW
structure Fit (f:Fi) (m:Me) (cn ccap dcap:Nat):Prop where
 hc1:cn≤ccap
 hc2:ccap≤9223372036854775807
 hd1:m.code.length≤dcap
 hd2:dcap≤9223372036854775807
 hr:0≤m.regs∧m.regs≤90
theorem after_eq {w w':World}{lb:Nat}{vc vm vp vcd vh:Value}{m:Me}{p q:Bool}(h:Lk w' lb vc vm vp vcd vh m p) (hT:Keep w.heap.size lb w w') (e:p=q):After w lb vc vm vp vcd vh m q w':=by subst e;exact ⟨h,hT⟩
set_option maxRecDepth 100000 in
theorem ins1 (f:Fi) (m:Me) (a b c n:Int) (args:List Int) (lb:Nat) (ca:Option Addr) (ccap:Nat) (vm vp:Value) (da:Option Addr) (dcap:Nat) (vh:Value) (aa:Option Addr) (acap:Nat) (w:World)
  (h:Lk w lb (.slice ca f.classes.length ccap) vm vp (.slice da m.code.length dcap) vh m true) (hF:Fit f m f.classes.length ccap dcap) (oks:Ok a∧Ok b∧Ok c∧Ok n) (ha:args.length≤acap∧acap≤9223372036854775807) :
  Calls Try.prog 33 #[.pointer (some ⟨lb,0,none⟩),.agg #[.int .i64 1,.int .i64 a,.int .i64 b,.int .i64 c,.int .i64 n,.slice aa args.length acap]] w
   fun e w'=>e=.returned (.tuple #[])∧After w lb (.slice ca f.classes.length ccap) vm vp (.slice da m.code.length dcap) vh m (Rform.ins f m ⟨1,a,b,c,n,args⟩) w':=by
 obtain ⟨hc1,hc2,hd1,hd2,hr⟩:=hF
 obtain ⟨oa,ob,oc,on⟩:=oks
 obtain ⟨ha1,ha2⟩:=ha
 obtain ⟨hr1,hr2⟩:=hr
 have hr:0≤m.regs∧m.regs≤90:=⟨hr1,hr2⟩
 have hlt:=h.lt
 have hne:w.heap.size≠lb:=by omega
 obtain ⟨W,hW⟩:∃ W,Hid (w.alloc (.cells #[.int .i64 1,.int .i64 a,.int .i64 b,.int .i64 c,.int .i64 n,.slice aa args.length acap] 79)=W):=⟨_,rfl⟩
 have hL:=Lib.hid (h.next (Below.alloc (Below.refl _ _) (Nat.le_refl _) (.cells #[.int .i64 1,.int .i64 a,.int .i64 b,.int .i64 c,.int .i64 n,.slice aa args.length acap] 79)) h.lt)
 have hT:Keep w.heap.size lb w (w.alloc (.cells #[.int .i64 1,.int .i64 a,.int .i64 b,.int .i64 c,.int .i64 n,.slice aa args.length acap] 79)):=Keep.alloc (Keep.refl _ _ _) (Nat.le_refl _) _
 have hTs:=hT.size
 have hbl:=hL.out.lt
 have x0:(w.alloc (.cells #[.int .i64 1,.int .i64 a,.int .i64 b,.int .i64 c,.int .i64 n,.slice aa args.length acap] 79)).cell? ⟨w.heap.size,0,none⟩=some (.int .i64 1):=by go_simp
 have x1:(w.alloc (.cells #[.int .i64 1,.int .i64 a,.int .i64 b,.int .i64 c,.int .i64 n,.slice aa args.length acap] 79)).cell? ⟨w.heap.size,1,none⟩=some (.int .i64 a):=by go_simp
 have x2:(w.alloc (.cells #[.int .i64 1,.int .i64 a,.int .i64 b,.int .i64 c,.int .i64 n,.slice aa args.length acap] 79)).cell? ⟨w.heap.size,2,none⟩=some (.int .i64 b):=by go_simp
 have x3:(w.alloc (.cells #[.int .i64 1,.int .i64 a,.int .i64 b,.int .i64 c,.int .i64 n,.slice aa args.length acap] 79)).cell? ⟨w.heap.size,3,none⟩=some (.int .i64 c):=by go_simp
 have x4:(w.alloc (.cells #[.int .i64 1,.int .i64 a,.int .i64 b,.int .i64 c,.int .i64 n,.slice aa args.length acap] 79)).cell? ⟨w.heap.size,4,none⟩=some (.int .i64 n):=by go_simp
 have x5:(w.alloc (.cells #[.int .i64 1,.int .i64 a,.int .i64 b,.int .i64 c,.int .i64 n,.slice aa args.length acap] 79)).cell? ⟨w.heap.size,5,none⟩=some (.slice aa args.length acap):=by go_simp
 clear h hW W
 go_enter Try.func33,Try.ntmps33
 go_wp2_with (first
   | (go_at_call 60;(first | (with_reducible refine (mustA (by first | rfl | simp) hL.out).mono ?_));rintro e w1 ⟨rfl,hA,hK⟩;replace hL:=Lib.hid hA;clear hA;replace hT:=hT.trans (hK.mono hTs);replace hTs:=Nat.le_trans hTs hK.size;replace x0:=hK.cell (lt_cell x0) hne x0;replace x1:=hK.cell (lt_cell x1) hne x1;replace x2:=hK.cell (lt_cell x2) hne x2;replace x3:=hK.cell (lt_cell x3) hne x3;replace x4:=hK.cell (lt_cell x4) hne x4;replace x5:=hK.cell (lt_cell x5) hne x5;replace hbl:=hL.out.lt;clear hK)
   | (go_at_call 61;(first | (with_reducible refine (reg1A (by first | rfl | simp) hL.out (by first | with_reducible assumption | (unfold Ok;omega)) hr).mono ?_) | (with_reducible refine (reg2A (by first | rfl | simp) hL.out (by first | with_reducible assumption | (unfold Ok;omega)) hr).mono ?_) | (with_reducible refine (reg3A (by first | rfl | simp) hL.out (by first | with_reducible assumption | (unfold Ok;omega)) hr).mono ?_));rintro e w1 ⟨rfl,hA,hK⟩;replace hL:=Lib.hid hA;clear hA;replace hT:=hT.trans (hK.mono hTs);replace hTs:=Nat.le_trans hTs hK.size;replace x0:=hK.cell (lt_cell x0) hne x0;replace x1:=hK.cell (lt_cell x1) hne x1;replace x2:=hK.cell (lt_cell x2) hne x2;replace x3:=hK.cell (lt_cell x3) hne x3;replace x4:=hK.cell (lt_cell x4) hne x4;replace x5:=hK.cell (lt_cell x5) hne x5;replace hbl:=hL.out.lt;clear hK)
   | (go_at_call 62;(first | (with_reducible refine (nought1A (by first | rfl | simp) hL.out).mono ?_) | (with_reducible refine (nought2A (by first | rfl | simp) hL.out).mono ?_));rintro e w1 ⟨rfl,hA,hK⟩;replace hL:=Lib.hid hA;clear hA;replace hT:=hT.trans (hK.mono hTs);replace hTs:=Nat.le_trans hTs hK.size;replace x0:=hK.cell (lt_cell x0) hne x0;replace x1:=hK.cell (lt_cell x1) hne x1;replace x2:=hK.cell (lt_cell x2) hne x2;replace x3:=hK.cell (lt_cell x3) hne x3;replace x4:=hK.cell (lt_cell x4) hne x4;replace x5:=hK.cell (lt_cell x5) hne x5;replace hbl:=hL.out.lt;clear hK)
   | (go_at_call 63;(first | (with_reducible refine (atA hL.out hd1 hd2).mono ?_));rintro e w1 ⟨rfl,hA,hK⟩;replace hL:=Lib.hid hA;clear hA;replace hT:=hT.trans (hK.mono hTs);replace hTs:=Nat.le_trans hTs hK.size;replace x0:=hK.cell (lt_cell x0) hne x0;replace x1:=hK.cell (lt_cell x1) hne x1;replace x2:=hK.cell (lt_cell x2) hne x2;replace x3:=hK.cell (lt_cell x3) hne x3;replace x4:=hK.cell (lt_cell x4) hne x4;replace x5:=hK.cell (lt_cell x5) hne x5;replace hbl:=hL.out.lt;clear hK)
   | (go_at_call 100;(first | (with_reducible refine (clsA hL.out hc1 hc2).mono ?_));rintro e w1 ⟨rfl,hA,hK⟩;replace hL:=Lib.hid hA;clear hA;replace hT:=hT.trans (hK.mono hTs);replace hTs:=Nat.le_trans hTs hK.size;replace x0:=hK.cell (lt_cell x0) hne x0;replace x1:=hK.cell (lt_cell x1) hne x1;replace x2:=hK.cell (lt_cell x2) hne x2;replace x3:=hK.cell (lt_cell x3) hne x3;replace x4:=hK.cell (lt_cell x4) hne x4;replace x5:=hK.cell (lt_cell x5) hne x5;replace hbl:=hL.out.lt;clear hK)
   | (go_at_call 30;refine (lin _ _ _ _).mono ?_;rintro e w1 ⟨rfl,rfl⟩))
 all_goals
  go_end0
  refine ⟨rfl,after_eq hL.out hT ?_⟩
  go_tidy
  have e0:((args.length:Int)==0)=decide (args.length=0):=by rw [Bool.eq_iff_iff];simp
  have e1:(n==wrap64 (wrap32 n))=decide (wrap32 n=n):=by rw [wrap64_id (wrap32_ok n),Bool.eq_iff_iff];simp;exact eq_comm
  have e2:(n==0)=decide (n=0):=rfl
  simp only [Rform.ins,Rform.body,Rform.num,Form.rng,e0,e1,e2]
  generalize decide (args.length=0)=A
  simp
  first
   | done
   | ac_rfl
   | (rw [Bool.eq_iff_iff];simp only [Bool.and_eq_true,decide_eq_true_eq];(try simp only [Rform.reg,Form.rng,decide_eq_true_eq]);omega)
   | grind
set_option maxRecDepth 100000 in
theorem ins2 (f:Fi) (m:Me) (a b c n:Int) (args:List Int) (lb:Nat) (ca:Option Addr) (ccap:Nat) (vm vp:Value) (da:Option Addr) (dcap:Nat) (vh:Value) (aa:Option Addr) (acap:Nat) (w:World)
  (h:Lk w lb (.slice ca f.classes.length ccap) vm vp (.slice da m.code.length dcap) vh m true) (hF:Fit f m f.classes.length ccap dcap) (oks:Ok a∧Ok b∧Ok c∧Ok n) (ha:args.length≤acap∧acap≤9223372036854775807) :
  Calls Try.prog 33 #[.pointer (some ⟨lb,0,none⟩),.agg #[.int .i64 2,.int .i64 a,.int .i64 b,.int .i64 c,.int .i64 n,.slice aa args.length acap]] w
   fun e w'=>e=.returned (.tuple #[])∧After w lb (.slice ca f.classes.length ccap) vm vp (.slice da m.code.length dcap) vh m (Rform.ins f m ⟨2,a,b,c,n,args⟩) w':=by
 obtain ⟨hc1,hc2,hd1,hd2,hr⟩:=hF
 obtain ⟨oa,ob,oc,on⟩:=oks
 obtain ⟨ha1,ha2⟩:=ha
 obtain ⟨hr1,hr2⟩:=hr
 have hr:0≤m.regs∧m.regs≤90:=⟨hr1,hr2⟩
 have hlt:=h.lt
 have hne:w.heap.size≠lb:=by omega
 obtain ⟨W,hW⟩:∃ W,Hid (w.alloc (.cells #[.int .i64 2,.int .i64 a,.int .i64 b,.int .i64 c,.int .i64 n,.slice aa args.length acap] 79)=W):=⟨_,rfl⟩
 have hL:=Lib.hid (h.next (Below.alloc (Below.refl _ _) (Nat.le_refl _) (.cells #[.int .i64 2,.int .i64 a,.int .i64 b,.int .i64 c,.int .i64 n,.slice aa args.length acap] 79)) h.lt)
 have hT:Keep w.heap.size lb w (w.alloc (.cells #[.int .i64 2,.int .i64 a,.int .i64 b,.int .i64 c,.int .i64 n,.slice aa args.length acap] 79)):=Keep.alloc (Keep.refl _ _ _) (Nat.le_refl _) _
 have hTs:=hT.size
 have hbl:=hL.out.lt
 have x0:(w.alloc (.cells #[.int .i64 2,.int .i64 a,.int .i64 b,.int .i64 c,.int .i64 n,.slice aa args.length acap] 79)).cell? ⟨w.heap.size,0,none⟩=some (.int .i64 2):=by go_simp
 have x1:(w.alloc (.cells #[.int .i64 2,.int .i64 a,.int .i64 b,.int .i64 c,.int .i64 n,.slice aa args.length acap] 79)).cell? ⟨w.heap.size,1,none⟩=some (.int .i64 a):=by go_simp
 have x2:(w.alloc (.cells #[.int .i64 2,.int .i64 a,.int .i64 b,.int .i64 c,.int .i64 n,.slice aa args.length acap] 79)).cell? ⟨w.heap.size,2,none⟩=some (.int .i64 b):=by go_simp
 have x3:(w.alloc (.cells #[.int .i64 2,.int .i64 a,.int .i64 b,.int .i64 c,.int .i64 n,.slice aa args.length acap] 79)).cell? ⟨w.heap.size,3,none⟩=some (.int .i64 c):=by go_simp
 have x4:(w.alloc (.cells #[.int .i64 2,.int .i64 a,.int .i64 b,.int .i64 c,.int .i64 n,.slice aa args.length acap] 79)).cell? ⟨w.heap.size,4,none⟩=some (.int .i64 n):=by go_simp
 have x5:(w.alloc (.cells #[.int .i64 2,.int .i64 a,.int .i64 b,.int .i64 c,.int .i64 n,.slice aa args.length acap] 79)).cell? ⟨w.heap.size,5,none⟩=some (.slice aa args.length acap):=by go_simp
 clear h hW W
 go_enter Try.func33,Try.ntmps33
 go_wp2_with (first
   | (go_at_call 60;(first | (with_reducible refine (mustA (by first | rfl | simp) hL.out).mono ?_));rintro e w1 ⟨rfl,hA,hK⟩;replace hL:=Lib.hid hA;clear hA;replace hT:=hT.trans (hK.mono hTs);replace hTs:=Nat.le_trans hTs hK.size;replace x0:=hK.cell (lt_cell x0) hne x0;replace x1:=hK.cell (lt_cell x1) hne x1;replace x2:=hK.cell (lt_cell x2) hne x2;replace x3:=hK.cell (lt_cell x3) hne x3;replace x4:=hK.cell (lt_cell x4) hne x4;replace x5:=hK.cell (lt_cell x5) hne x5;replace hbl:=hL.out.lt;clear hK)
   | (go_at_call 61;(first | (with_reducible refine (reg1A (by first | rfl | simp) hL.out (by first | with_reducible assumption | (unfold Ok;omega)) hr).mono ?_) | (with_reducible refine (reg2A (by first | rfl | simp) hL.out (by first | with_reducible assumption | (unfold Ok;omega)) hr).mono ?_) | (with_reducible refine (reg3A (by first | rfl | simp) hL.out (by first | with_reducible assumption | (unfold Ok;omega)) hr).mono ?_));rintro e w1 ⟨rfl,hA,hK⟩;replace hL:=Lib.hid hA;clear hA;replace hT:=hT.trans (hK.mono hTs);replace hTs:=Nat.le_trans hTs hK.size;replace x0:=hK.cell (lt_cell x0) hne x0;replace x1:=hK.cell (lt_cell x1) hne x1;replace x2:=hK.cell (lt_cell x2) hne x2;replace x3:=hK.cell (lt_cell x3) hne x3;replace x4:=hK.cell (lt_cell x4) hne x4;replace x5:=hK.cell (lt_cell x5) hne x5;replace hbl:=hL.out.lt;clear hK)
   | (go_at_call 62;(first | (with_reducible refine (nought1A (by first | rfl | simp) hL.out).mono ?_) | (with_reducible refine (nought2A (by first | rfl | simp) hL.out).mono ?_));rintro e w1 ⟨rfl,hA,hK⟩;replace hL:=Lib.hid hA;clear hA;replace hT:=hT.trans (hK.mono hTs);replace hTs:=Nat.le_trans hTs hK.size;replace x0:=hK.cell (lt_cell x0) hne x0;replace x1:=hK.cell (lt_cell x1) hne x1;replace x2:=hK.cell (lt_cell x2) hne x2;replace x3:=hK.cell (lt_cell x3) hne x3;replace x4:=hK.cell (lt_cell x4) hne x4;replace x5:=hK.cell (lt_cell x5) hne x5;replace hbl:=hL.out.lt;clear hK)
   | (go_at_call 63;(first | (with_reducible refine (atA hL.out hd1 hd2).mono ?_));rintro e w1 ⟨rfl,hA,hK⟩;replace hL:=Lib.hid hA;clear hA;replace hT:=hT.trans (hK.mono hTs);replace hTs:=Nat.le_trans hTs hK.size;replace x0:=hK.cell (lt_cell x0) hne x0;replace x1:=hK.cell (lt_cell x1) hne x1;replace x2:=hK.cell (lt_cell x2) hne x2;replace x3:=hK.cell (lt_cell x3) hne x3;replace x4:=hK.cell (lt_cell x4) hne x4;replace x5:=hK.cell (lt_cell x5) hne x5;replace hbl:=hL.out.lt;clear hK)
   | (go_at_call 100;(first | (with_reducible refine (clsA hL.out hc1 hc2).mono ?_));rintro e w1 ⟨rfl,hA,hK⟩;replace hL:=Lib.hid hA;clear hA;replace hT:=hT.trans (hK.mono hTs);replace hTs:=Nat.le_trans hTs hK.size;replace x0:=hK.cell (lt_cell x0) hne x0;replace x1:=hK.cell (lt_cell x1) hne x1;replace x2:=hK.cell (lt_cell x2) hne x2;replace x3:=hK.cell (lt_cell x3) hne x3;replace x4:=hK.cell (lt_cell x4) hne x4;replace x5:=hK.cell (lt_cell x5) hne x5;replace hbl:=hL.out.lt;clear hK)
   | (go_at_call 30;refine (lin _ _ _ _).mono ?_;rintro e w1 ⟨rfl,rfl⟩))
 all_goals
  go_end0
  refine ⟨rfl,after_eq hL.out hT ?_⟩
  go_tidy
  have e0:((args.length:Int)==0)=decide (args.length=0):=by rw [Bool.eq_iff_iff];simp
  have e1:(n==wrap64 (wrap32 n))=decide (wrap32 n=n):=by rw [wrap64_id (wrap32_ok n),Bool.eq_iff_iff];simp;exact eq_comm
  have e2:(n==0)=decide (n=0):=rfl
  simp only [Rform.ins,Rform.body,Rform.num,Form.rng,e0,e1,e2]
  generalize decide (args.length=0)=A
  simp
  first
   | done
   | ac_rfl
   | (rw [Bool.eq_iff_iff];simp only [Bool.and_eq_true,decide_eq_true_eq];(try simp only [Rform.reg,Form.rng,decide_eq_true_eq]);omega)
   | grind
set_option maxRecDepth 100000 in
theorem ins3 (f:Fi) (m:Me) (a b c n:Int) (args:List Int) (lb:Nat) (ca:Option Addr) (ccap:Nat) (vm vp:Value) (da:Option Addr) (dcap:Nat) (vh:Value) (aa:Option Addr) (acap:Nat) (w:World)
  (h:Lk w lb (.slice ca f.classes.length ccap) vm vp (.slice da m.code.length dcap) vh m true) (hF:Fit f m f.classes.length ccap dcap) (oks:Ok a∧Ok b∧Ok c∧Ok n) (ha:args.length≤acap∧acap≤9223372036854775807) :
  Calls Try.prog 33 #[.pointer (some ⟨lb,0,none⟩),.agg #[.int .i64 3,.int .i64 a,.int .i64 b,.int .i64 c,.int .i64 n,.slice aa args.length acap]] w
   fun e w'=>e=.returned (.tuple #[])∧After w lb (.slice ca f.classes.length ccap) vm vp (.slice da m.code.length dcap) vh m (Rform.ins f m ⟨3,a,b,c,n,args⟩) w':=by
 obtain ⟨hc1,hc2,hd1,hd2,hr⟩:=hF
 obtain ⟨oa,ob,oc,on⟩:=oks
 obtain ⟨ha1,ha2⟩:=ha
 obtain ⟨hr1,hr2⟩:=hr
 have hr:0≤m.regs∧m.regs≤90:=⟨hr1,hr2⟩
 have hlt:=h.lt
 have hne:w.heap.size≠lb:=by omega
 obtain ⟨W,hW⟩:∃ W,Hid (w.alloc (.cells #[.int .i64 3,.int .i64 a,.int .i64 b,.int .i64 c,.int .i64 n,.slice aa args.length acap] 79)=W):=⟨_,rfl⟩
 have hL:=Lib.hid (h.next (Below.alloc (Below.refl _ _) (Nat.le_refl _) (.cells #[.int .i64 3,.int .i64 a,.int .i64 b,.int .i64 c,.int .i64 n,.slice aa args.length acap] 79)) h.lt)
 have hT:Keep w.heap.size lb w (w.alloc (.cells #[.int .i64 3,.int .i64 a,.int .i64 b,.int .i64 c,.int .i64 n,.slice aa args.length acap] 79)):=Keep.alloc (Keep.refl _ _ _) (Nat.le_refl _) _
 have hTs:=hT.size
 have hbl:=hL.out.lt
 have x0:(w.alloc (.cells #[.int .i64 3,.int .i64 a,.int .i64 b,.int .i64 c,.int .i64 n,.slice aa args.length acap] 79)).cell? ⟨w.heap.size,0,none⟩=some (.int .i64 3):=by go_simp
 have x1:(w.alloc (.cells #[.int .i64 3,.int .i64 a,.int .i64 b,.int .i64 c,.int .i64 n,.slice aa args.length acap] 79)).cell? ⟨w.heap.size,1,none⟩=some (.int .i64 a):=by go_simp
 have x2:(w.alloc (.cells #[.int .i64 3,.int .i64 a,.int .i64 b,.int .i64 c,.int .i64 n,.slice aa args.length acap] 79)).cell? ⟨w.heap.size,2,none⟩=some (.int .i64 b):=by go_simp
 have x3:(w.alloc (.cells #[.int .i64 3,.int .i64 a,.int .i64 b,.int .i64 c,.int .i64 n,.slice aa args.length acap] 79)).cell? ⟨w.heap.size,3,none⟩=some (.int .i64 c):=by go_simp
 have x4:(w.alloc (.cells #[.int .i64 3,.int .i64 a,.int .i64 b,.int .i64 c,.int .i64 n,.slice aa args.length acap] 79)).cell? ⟨w.heap.size,4,none⟩=some (.int .i64 n):=by go_simp
 have x5:(w.alloc (.cells #[.int .i64 3,.int .i64 a,.int .i64 b,.int .i64 c,.int .i64 n,.slice aa args.length acap] 79)).cell? ⟨w.heap.size,5,none⟩=some (.slice aa args.length acap):=by go_simp
 clear h hW W
 go_enter Try.func33,Try.ntmps33
 go_wp2_with (first
   | (go_at_call 60;(first | (with_reducible refine (mustA (by first | rfl | simp) hL.out).mono ?_));rintro e w1 ⟨rfl,hA,hK⟩;replace hL:=Lib.hid hA;clear hA;replace hT:=hT.trans (hK.mono hTs);replace hTs:=Nat.le_trans hTs hK.size;replace x0:=hK.cell (lt_cell x0) hne x0;replace x1:=hK.cell (lt_cell x1) hne x1;replace x2:=hK.cell (lt_cell x2) hne x2;replace x3:=hK.cell (lt_cell x3) hne x3;replace x4:=hK.cell (lt_cell x4) hne x4;replace x5:=hK.cell (lt_cell x5) hne x5;replace hbl:=hL.out.lt;clear hK)
   | (go_at_call 61;(first | (with_reducible refine (reg1A (by first | rfl | simp) hL.out (by first | with_reducible assumption | (unfold Ok;omega)) hr).mono ?_) | (with_reducible refine (reg2A (by first | rfl | simp) hL.out (by first | with_reducible assumption | (unfold Ok;omega)) hr).mono ?_) | (with_reducible refine (reg3A (by first | rfl | simp) hL.out (by first | with_reducible assumption | (unfold Ok;omega)) hr).mono ?_));rintro e w1 ⟨rfl,hA,hK⟩;replace hL:=Lib.hid hA;clear hA;replace hT:=hT.trans (hK.mono hTs);replace hTs:=Nat.le_trans hTs hK.size;replace x0:=hK.cell (lt_cell x0) hne x0;replace x1:=hK.cell (lt_cell x1) hne x1;replace x2:=hK.cell (lt_cell x2) hne x2;replace x3:=hK.cell (lt_cell x3) hne x3;replace x4:=hK.cell (lt_cell x4) hne x4;replace x5:=hK.cell (lt_cell x5) hne x5;replace hbl:=hL.out.lt;clear hK)
   | (go_at_call 62;(first | (with_reducible refine (nought1A (by first | rfl | simp) hL.out).mono ?_) | (with_reducible refine (nought2A (by first | rfl | simp) hL.out).mono ?_));rintro e w1 ⟨rfl,hA,hK⟩;replace hL:=Lib.hid hA;clear hA;replace hT:=hT.trans (hK.mono hTs);replace hTs:=Nat.le_trans hTs hK.size;replace x0:=hK.cell (lt_cell x0) hne x0;replace x1:=hK.cell (lt_cell x1) hne x1;replace x2:=hK.cell (lt_cell x2) hne x2;replace x3:=hK.cell (lt_cell x3) hne x3;replace x4:=hK.cell (lt_cell x4) hne x4;replace x5:=hK.cell (lt_cell x5) hne x5;replace hbl:=hL.out.lt;clear hK)
   | (go_at_call 63;(first | (with_reducible refine (atA hL.out hd1 hd2).mono ?_));rintro e w1 ⟨rfl,hA,hK⟩;replace hL:=Lib.hid hA;clear hA;replace hT:=hT.trans (hK.mono hTs);replace hTs:=Nat.le_trans hTs hK.size;replace x0:=hK.cell (lt_cell x0) hne x0;replace x1:=hK.cell (lt_cell x1) hne x1;replace x2:=hK.cell (lt_cell x2) hne x2;replace x3:=hK.cell (lt_cell x3) hne x3;replace x4:=hK.cell (lt_cell x4) hne x4;replace x5:=hK.cell (lt_cell x5) hne x5;replace hbl:=hL.out.lt;clear hK)
   | (go_at_call 100;(first | (with_reducible refine (clsA hL.out hc1 hc2).mono ?_));rintro e w1 ⟨rfl,hA,hK⟩;replace hL:=Lib.hid hA;clear hA;replace hT:=hT.trans (hK.mono hTs);replace hTs:=Nat.le_trans hTs hK.size;replace x0:=hK.cell (lt_cell x0) hne x0;replace x1:=hK.cell (lt_cell x1) hne x1;replace x2:=hK.cell (lt_cell x2) hne x2;replace x3:=hK.cell (lt_cell x3) hne x3;replace x4:=hK.cell (lt_cell x4) hne x4;replace x5:=hK.cell (lt_cell x5) hne x5;replace hbl:=hL.out.lt;clear hK)
   | (go_at_call 30;refine (lin _ _ _ _).mono ?_;rintro e w1 ⟨rfl,rfl⟩))
 all_goals
  go_end0
  refine ⟨rfl,after_eq hL.out hT ?_⟩
  go_tidy
  have e0:((args.length:Int)==0)=decide (args.length=0):=by rw [Bool.eq_iff_iff];simp
  have e1:(n==wrap64 (wrap32 n))=decide (wrap32 n=n):=by rw [wrap64_id (wrap32_ok n),Bool.eq_iff_iff];simp;exact eq_comm
  have e2:(n==0)=decide (n=0):=rfl
  simp only [Rform.ins,Rform.body,Rform.num,Form.rng,e0,e1,e2]
  generalize decide (args.length=0)=A
  simp
  first
   | done
   | ac_rfl
   | (rw [Bool.eq_iff_iff];simp only [Bool.and_eq_true,decide_eq_true_eq];(try simp only [Rform.reg,Form.rng,decide_eq_true_eq]);omega)
   | grind
set_option maxRecDepth 100000 in
theorem ins4 (f:Fi) (m:Me) (a b c n:Int) (args:List Int) (lb:Nat) (ca:Option Addr) (ccap:Nat) (vm vp:Value) (da:Option Addr) (dcap:Nat) (vh:Value) (aa:Option Addr) (acap:Nat) (w:World)
  (h:Lk w lb (.slice ca f.classes.length ccap) vm vp (.slice da m.code.length dcap) vh m true) (hF:Fit f m f.classes.length ccap dcap) (oks:Ok a∧Ok b∧Ok c∧Ok n) (ha:args.length≤acap∧acap≤9223372036854775807) :
  Calls Try.prog 33 #[.pointer (some ⟨lb,0,none⟩),.agg #[.int .i64 4,.int .i64 a,.int .i64 b,.int .i64 c,.int .i64 n,.slice aa args.length acap]] w
   fun e w'=>e=.returned (.tuple #[])∧After w lb (.slice ca f.classes.length ccap) vm vp (.slice da m.code.length dcap) vh m (Rform.ins f m ⟨4,a,b,c,n,args⟩) w':=by
 obtain ⟨hc1,hc2,hd1,hd2,hr⟩:=hF
 obtain ⟨oa,ob,oc,on⟩:=oks
 obtain ⟨ha1,ha2⟩:=ha
 obtain ⟨hr1,hr2⟩:=hr
 have hr:0≤m.regs∧m.regs≤90:=⟨hr1,hr2⟩
 have hlt:=h.lt
 have hne:w.heap.size≠lb:=by omega
 obtain ⟨W,hW⟩:∃ W,Hid (w.alloc (.cells #[.int .i64 4,.int .i64 a,.int .i64 b,.int .i64 c,.int .i64 n,.slice aa args.length acap] 79)=W):=⟨_,rfl⟩
 have hL:=Lib.hid (h.next (Below.alloc (Below.refl _ _) (Nat.le_refl _) (.cells #[.int .i64 4,.int .i64 a,.int .i64 b,.int .i64 c,.int .i64 n,.slice aa args.length acap] 79)) h.lt)
 have hT:Keep w.heap.size lb w (w.alloc (.cells #[.int .i64 4,.int .i64 a,.int .i64 b,.int .i64 c,.int .i64 n,.slice aa args.length acap] 79)):=Keep.alloc (Keep.refl _ _ _) (Nat.le_refl _) _
 have hTs:=hT.size
 have hbl:=hL.out.lt
 have x0:(w.alloc (.cells #[.int .i64 4,.int .i64 a,.int .i64 b,.int .i64 c,.int .i64 n,.slice aa args.length acap] 79)).cell? ⟨w.heap.size,0,none⟩=some (.int .i64 4):=by go_simp
 have x1:(w.alloc (.cells #[.int .i64 4,.int .i64 a,.int .i64 b,.int .i64 c,.int .i64 n,.slice aa args.length acap] 79)).cell? ⟨w.heap.size,1,none⟩=some (.int .i64 a):=by go_simp
 have x2:(w.alloc (.cells #[.int .i64 4,.int .i64 a,.int .i64 b,.int .i64 c,.int .i64 n,.slice aa args.length acap] 79)).cell? ⟨w.heap.size,2,none⟩=some (.int .i64 b):=by go_simp
 have x3:(w.alloc (.cells #[.int .i64 4,.int .i64 a,.int .i64 b,.int .i64 c,.int .i64 n,.slice aa args.length acap] 79)).cell? ⟨w.heap.size,3,none⟩=some (.int .i64 c):=by go_simp
 have x4:(w.alloc (.cells #[.int .i64 4,.int .i64 a,.int .i64 b,.int .i64 c,.int .i64 n,.slice aa args.length acap] 79)).cell? ⟨w.heap.size,4,none⟩=some (.int .i64 n):=by go_simp
 have x5:(w.alloc (.cells #[.int .i64 4,.int .i64 a,.int .i64 b,.int .i64 c,.int .i64 n,.slice aa args.length acap] 79)).cell? ⟨w.heap.size,5,none⟩=some (.slice aa args.length acap):=by go_simp
 clear h hW W
 go_enter Try.func33,Try.ntmps33
 go_wp2_with (first
   | (go_at_call 60;(first | (with_reducible refine (mustA (by first | rfl | simp) hL.out).mono ?_));rintro e w1 ⟨rfl,hA,hK⟩;replace hL:=Lib.hid hA;clear hA;replace hT:=hT.trans (hK.mono hTs);replace hTs:=Nat.le_trans hTs hK.size;replace x0:=hK.cell (lt_cell x0) hne x0;replace x1:=hK.cell (lt_cell x1) hne x1;replace x2:=hK.cell (lt_cell x2) hne x2;replace x3:=hK.cell (lt_cell x3) hne x3;replace x4:=hK.cell (lt_cell x4) hne x4;replace x5:=hK.cell (lt_cell x5) hne x5;replace hbl:=hL.out.lt;clear hK)
   | (go_at_call 61;(first | (with_reducible refine (reg1A (by first | rfl | simp) hL.out (by first | with_reducible assumption | (unfold Ok;omega)) hr).mono ?_) | (with_reducible refine (reg2A (by first | rfl | simp) hL.out (by first | with_reducible assumption | (unfold Ok;omega)) hr).mono ?_) | (with_reducible refine (reg3A (by first | rfl | simp) hL.out (by first | with_reducible assumption | (unfold Ok;omega)) hr).mono ?_));rintro e w1 ⟨rfl,hA,hK⟩;replace hL:=Lib.hid hA;clear hA;replace hT:=hT.trans (hK.mono hTs);replace hTs:=Nat.le_trans hTs hK.size;replace x0:=hK.cell (lt_cell x0) hne x0;replace x1:=hK.cell (lt_cell x1) hne x1;replace x2:=hK.cell (lt_cell x2) hne x2;replace x3:=hK.cell (lt_cell x3) hne x3;replace x4:=hK.cell (lt_cell x4) hne x4;replace x5:=hK.cell (lt_cell x5) hne x5;replace hbl:=hL.out.lt;clear hK)
   | (go_at_call 62;(first | (with_reducible refine (nought1A (by first | rfl | simp) hL.out).mono ?_) | (with_reducible refine (nought2A (by first | rfl | simp) hL.out).mono ?_));rintro e w1 ⟨rfl,hA,hK⟩;replace hL:=Lib.hid hA;clear hA;replace hT:=hT.trans (hK.mono hTs);replace hTs:=Nat.le_trans hTs hK.size;replace x0:=hK.cell (lt_cell x0) hne x0;replace x1:=hK.cell (lt_cell x1) hne x1;replace x2:=hK.cell (lt_cell x2) hne x2;replace x3:=hK.cell (lt_cell x3) hne x3;replace x4:=hK.cell (lt_cell x4) hne x4;replace x5:=hK.cell (lt_cell x5) hne x5;replace hbl:=hL.out.lt;clear hK)
   | (go_at_call 63;(first | (with_reducible refine (atA hL.out hd1 hd2).mono ?_));rintro e w1 ⟨rfl,hA,hK⟩;replace hL:=Lib.hid hA;clear hA;replace hT:=hT.trans (hK.mono hTs);replace hTs:=Nat.le_trans hTs hK.size;replace x0:=hK.cell (lt_cell x0) hne x0;replace x1:=hK.cell (lt_cell x1) hne x1;replace x2:=hK.cell (lt_cell x2) hne x2;replace x3:=hK.cell (lt_cell x3) hne x3;replace x4:=hK.cell (lt_cell x4) hne x4;replace x5:=hK.cell (lt_cell x5) hne x5;replace hbl:=hL.out.lt;clear hK)
   | (go_at_call 100;(first | (with_reducible refine (clsA hL.out hc1 hc2).mono ?_));rintro e w1 ⟨rfl,hA,hK⟩;replace hL:=Lib.hid hA;clear hA;replace hT:=hT.trans (hK.mono hTs);replace hTs:=Nat.le_trans hTs hK.size;replace x0:=hK.cell (lt_cell x0) hne x0;replace x1:=hK.cell (lt_cell x1) hne x1;replace x2:=hK.cell (lt_cell x2) hne x2;replace x3:=hK.cell (lt_cell x3) hne x3;replace x4:=hK.cell (lt_cell x4) hne x4;replace x5:=hK.cell (lt_cell x5) hne x5;replace hbl:=hL.out.lt;clear hK)
   | (go_at_call 30;refine (lin _ _ _ _).mono ?_;rintro e w1 ⟨rfl,rfl⟩))
 all_goals
  go_end0
  refine ⟨rfl,after_eq hL.out hT ?_⟩
  go_tidy
  have e0:((args.length:Int)==0)=decide (args.length=0):=by rw [Bool.eq_iff_iff];simp
  have e1:(n==wrap64 (wrap32 n))=decide (wrap32 n=n):=by rw [wrap64_id (wrap32_ok n),Bool.eq_iff_iff];simp;exact eq_comm
  have e2:(n==0)=decide (n=0):=rfl
  simp only [Rform.ins,Rform.body,Rform.num,Form.rng,e0,e1,e2]
  generalize decide (args.length=0)=A
  simp
  first
   | done
   | ac_rfl
   | (rw [Bool.eq_iff_iff];simp only [Bool.and_eq_true,decide_eq_true_eq];(try simp only [Rform.reg,Form.rng,decide_eq_true_eq]);omega)
   | grind
set_option maxRecDepth 100000 in
theorem ins5 (f:Fi) (m:Me) (a b c n:Int) (args:List Int) (lb:Nat) (ca:Option Addr) (ccap:Nat) (vm vp:Value) (da:Option Addr) (dcap:Nat) (vh:Value) (aa:Option Addr) (acap:Nat) (w:World)
  (h:Lk w lb (.slice ca f.classes.length ccap) vm vp (.slice da m.code.length dcap) vh m true) (hF:Fit f m f.classes.length ccap dcap) (oks:Ok a∧Ok b∧Ok c∧Ok n) (ha:args.length≤acap∧acap≤9223372036854775807) :
  Calls Try.prog 33 #[.pointer (some ⟨lb,0,none⟩),.agg #[.int .i64 5,.int .i64 a,.int .i64 b,.int .i64 c,.int .i64 n,.slice aa args.length acap]] w
   fun e w'=>e=.returned (.tuple #[])∧After w lb (.slice ca f.classes.length ccap) vm vp (.slice da m.code.length dcap) vh m (Rform.ins f m ⟨5,a,b,c,n,args⟩) w':=by
 obtain ⟨hc1,hc2,hd1,hd2,hr⟩:=hF
 obtain ⟨oa,ob,oc,on⟩:=oks
 obtain ⟨ha1,ha2⟩:=ha
 obtain ⟨hr1,hr2⟩:=hr
 have hr:0≤m.regs∧m.regs≤90:=⟨hr1,hr2⟩
 have hlt:=h.lt
 have hne:w.heap.size≠lb:=by omega
 obtain ⟨W,hW⟩:∃ W,Hid (w.alloc (.cells #[.int .i64 5,.int .i64 a,.int .i64 b,.int .i64 c,.int .i64 n,.slice aa args.length acap] 79)=W):=⟨_,rfl⟩
 have hL:=Lib.hid (h.next (Below.alloc (Below.refl _ _) (Nat.le_refl _) (.cells #[.int .i64 5,.int .i64 a,.int .i64 b,.int .i64 c,.int .i64 n,.slice aa args.length acap] 79)) h.lt)
 have hT:Keep w.heap.size lb w (w.alloc (.cells #[.int .i64 5,.int .i64 a,.int .i64 b,.int .i64 c,.int .i64 n,.slice aa args.length acap] 79)):=Keep.alloc (Keep.refl _ _ _) (Nat.le_refl _) _
 have hTs:=hT.size
 have hbl:=hL.out.lt
 have x0:(w.alloc (.cells #[.int .i64 5,.int .i64 a,.int .i64 b,.int .i64 c,.int .i64 n,.slice aa args.length acap] 79)).cell? ⟨w.heap.size,0,none⟩=some (.int .i64 5):=by go_simp
 have x1:(w.alloc (.cells #[.int .i64 5,.int .i64 a,.int .i64 b,.int .i64 c,.int .i64 n,.slice aa args.length acap] 79)).cell? ⟨w.heap.size,1,none⟩=some (.int .i64 a):=by go_simp
 have x2:(w.alloc (.cells #[.int .i64 5,.int .i64 a,.int .i64 b,.int .i64 c,.int .i64 n,.slice aa args.length acap] 79)).cell? ⟨w.heap.size,2,none⟩=some (.int .i64 b):=by go_simp
 have x3:(w.alloc (.cells #[.int .i64 5,.int .i64 a,.int .i64 b,.int .i64 c,.int .i64 n,.slice aa args.length acap] 79)).cell? ⟨w.heap.size,3,none⟩=some (.int .i64 c):=by go_simp
 have x4:(w.alloc (.cells #[.int .i64 5,.int .i64 a,.int .i64 b,.int .i64 c,.int .i64 n,.slice aa args.length acap] 79)).cell? ⟨w.heap.size,4,none⟩=some (.int .i64 n):=by go_simp
 have x5:(w.alloc (.cells #[.int .i64 5,.int .i64 a,.int .i64 b,.int .i64 c,.int .i64 n,.slice aa args.length acap] 79)).cell? ⟨w.heap.size,5,none⟩=some (.slice aa args.length acap):=by go_simp
 clear h hW W
 go_enter Try.func33,Try.ntmps33
 go_wp2_with (first
   | (go_at_call 60;(first | (with_reducible refine (mustA (by first | rfl | simp) hL.out).mono ?_));rintro e w1 ⟨rfl,hA,hK⟩;replace hL:=Lib.hid hA;clear hA;replace hT:=hT.trans (hK.mono hTs);replace hTs:=Nat.le_trans hTs hK.size;replace x0:=hK.cell (lt_cell x0) hne x0;replace x1:=hK.cell (lt_cell x1) hne x1;replace x2:=hK.cell (lt_cell x2) hne x2;replace x3:=hK.cell (lt_cell x3) hne x3;replace x4:=hK.cell (lt_cell x4) hne x4;replace x5:=hK.cell (lt_cell x5) hne x5;replace hbl:=hL.out.lt;clear hK)
   | (go_at_call 61;(first | (with_reducible refine (reg1A (by first | rfl | simp) hL.out (by first | with_reducible assumption | (unfold Ok;omega)) hr).mono ?_) | (with_reducible refine (reg2A (by first | rfl | simp) hL.out (by first | with_reducible assumption | (unfold Ok;omega)) hr).mono ?_) | (with_reducible refine (reg3A (by first | rfl | simp) hL.out (by first | with_reducible assumption | (unfold Ok;omega)) hr).mono ?_));rintro e w1 ⟨rfl,hA,hK⟩;replace hL:=Lib.hid hA;clear hA;replace hT:=hT.trans (hK.mono hTs);replace hTs:=Nat.le_trans hTs hK.size;replace x0:=hK.cell (lt_cell x0) hne x0;replace x1:=hK.cell (lt_cell x1) hne x1;replace x2:=hK.cell (lt_cell x2) hne x2;replace x3:=hK.cell (lt_cell x3) hne x3;replace x4:=hK.cell (lt_cell x4) hne x4;replace x5:=hK.cell (lt_cell x5) hne x5;replace hbl:=hL.out.lt;clear hK)
   | (go_at_call 62;(first | (with_reducible refine (nought1A (by first | rfl | simp) hL.out).mono ?_) | (with_reducible refine (nought2A (by first | rfl | simp) hL.out).mono ?_));rintro e w1 ⟨rfl,hA,hK⟩;replace hL:=Lib.hid hA;clear hA;replace hT:=hT.trans (hK.mono hTs);replace hTs:=Nat.le_trans hTs hK.size;replace x0:=hK.cell (lt_cell x0) hne x0;replace x1:=hK.cell (lt_cell x1) hne x1;replace x2:=hK.cell (lt_cell x2) hne x2;replace x3:=hK.cell (lt_cell x3) hne x3;replace x4:=hK.cell (lt_cell x4) hne x4;replace x5:=hK.cell (lt_cell x5) hne x5;replace hbl:=hL.out.lt;clear hK)
   | (go_at_call 63;(first | (with_reducible refine (atA hL.out hd1 hd2).mono ?_));rintro e w1 ⟨rfl,hA,hK⟩;replace hL:=Lib.hid hA;clear hA;replace hT:=hT.trans (hK.mono hTs);replace hTs:=Nat.le_trans hTs hK.size;replace x0:=hK.cell (lt_cell x0) hne x0;replace x1:=hK.cell (lt_cell x1) hne x1;replace x2:=hK.cell (lt_cell x2) hne x2;replace x3:=hK.cell (lt_cell x3) hne x3;replace x4:=hK.cell (lt_cell x4) hne x4;replace x5:=hK.cell (lt_cell x5) hne x5;replace hbl:=hL.out.lt;clear hK)
   | (go_at_call 100;(first | (with_reducible refine (clsA hL.out hc1 hc2).mono ?_));rintro e w1 ⟨rfl,hA,hK⟩;replace hL:=Lib.hid hA;clear hA;replace hT:=hT.trans (hK.mono hTs);replace hTs:=Nat.le_trans hTs hK.size;replace x0:=hK.cell (lt_cell x0) hne x0;replace x1:=hK.cell (lt_cell x1) hne x1;replace x2:=hK.cell (lt_cell x2) hne x2;replace x3:=hK.cell (lt_cell x3) hne x3;replace x4:=hK.cell (lt_cell x4) hne x4;replace x5:=hK.cell (lt_cell x5) hne x5;replace hbl:=hL.out.lt;clear hK)
   | (go_at_call 30;refine (lin _ _ _ _).mono ?_;rintro e w1 ⟨rfl,rfl⟩))
 all_goals
  go_end0
  refine ⟨rfl,after_eq hL.out hT ?_⟩
  go_tidy
  have e0:((args.length:Int)==0)=decide (args.length=0):=by rw [Bool.eq_iff_iff];simp
  have e1:(n==wrap64 (wrap32 n))=decide (wrap32 n=n):=by rw [wrap64_id (wrap32_ok n),Bool.eq_iff_iff];simp;exact eq_comm
  have e2:(n==0)=decide (n=0):=rfl
  simp only [Rform.ins,Rform.body,Rform.num,Form.rng,e0,e1,e2]
  generalize decide (args.length=0)=A
  simp
  first
   | done
   | ac_rfl
   | (rw [Bool.eq_iff_iff];simp only [Bool.and_eq_true,decide_eq_true_eq];(try simp only [Rform.reg,Form.rng,decide_eq_true_eq]);omega)
   | grind
set_option maxRecDepth 100000 in
theorem ins6 (f:Fi) (m:Me) (a b c n:Int) (args:List Int) (lb:Nat) (ca:Option Addr) (ccap:Nat) (vm vp:Value) (da:Option Addr) (dcap:Nat) (vh:Value) (aa:Option Addr) (acap:Nat) (w:World)
  (h:Lk w lb (.slice ca f.classes.length ccap) vm vp (.slice da m.code.length dcap) vh m true) (hF:Fit f m f.classes.length ccap dcap) (oks:Ok a∧Ok b∧Ok c∧Ok n) (ha:args.length≤acap∧acap≤9223372036854775807) :
  Calls Try.prog 33 #[.pointer (some ⟨lb,0,none⟩),.agg #[.int .i64 6,.int .i64 a,.int .i64 b,.int .i64 c,.int .i64 n,.slice aa args.length acap]] w
   fun e w'=>e=.returned (.tuple #[])∧After w lb (.slice ca f.classes.length ccap) vm vp (.slice da m.code.length dcap) vh m (Rform.ins f m ⟨6,a,b,c,n,args⟩) w':=by
 obtain ⟨hc1,hc2,hd1,hd2,hr⟩:=hF
 obtain ⟨oa,ob,oc,on⟩:=oks
 obtain ⟨ha1,ha2⟩:=ha
 obtain ⟨hr1,hr2⟩:=hr
 have hr:0≤m.regs∧m.regs≤90:=⟨hr1,hr2⟩
 have hlt:=h.lt
 have hne:w.heap.size≠lb:=by omega
 obtain ⟨W,hW⟩:∃ W,Hid (w.alloc (.cells #[.int .i64 6,.int .i64 a,.int .i64 b,.int .i64 c,.int .i64 n,.slice aa args.length acap] 79)=W):=⟨_,rfl⟩
 have hL:=Lib.hid (h.next (Below.alloc (Below.refl _ _) (Nat.le_refl _) (.cells #[.int .i64 6,.int .i64 a,.int .i64 b,.int .i64 c,.int .i64 n,.slice aa args.length acap] 79)) h.lt)
 have hT:Keep w.heap.size lb w (w.alloc (.cells #[.int .i64 6,.int .i64 a,.int .i64 b,.int .i64 c,.int .i64 n,.slice aa args.length acap] 79)):=Keep.alloc (Keep.refl _ _ _) (Nat.le_refl _) _
 have hTs:=hT.size
 have hbl:=hL.out.lt
 have x0:(w.alloc (.cells #[.int .i64 6,.int .i64 a,.int .i64 b,.int .i64 c,.int .i64 n,.slice aa args.length acap] 79)).cell? ⟨w.heap.size,0,none⟩=some (.int .i64 6):=by go_simp
 have x1:(w.alloc (.cells #[.int .i64 6,.int .i64 a,.int .i64 b,.int .i64 c,.int .i64 n,.slice aa args.length acap] 79)).cell? ⟨w.heap.size,1,none⟩=some (.int .i64 a):=by go_simp
 have x2:(w.alloc (.cells #[.int .i64 6,.int .i64 a,.int .i64 b,.int .i64 c,.int .i64 n,.slice aa args.length acap] 79)).cell? ⟨w.heap.size,2,none⟩=some (.int .i64 b):=by go_simp
 have x3:(w.alloc (.cells #[.int .i64 6,.int .i64 a,.int .i64 b,.int .i64 c,.int .i64 n,.slice aa args.length acap] 79)).cell? ⟨w.heap.size,3,none⟩=some (.int .i64 c):=by go_simp
 have x4:(w.alloc (.cells #[.int .i64 6,.int .i64 a,.int .i64 b,.int .i64 c,.int .i64 n,.slice aa args.length acap] 79)).cell? ⟨w.heap.size,4,none⟩=some (.int .i64 n):=by go_simp
 have x5:(w.alloc (.cells #[.int .i64 6,.int .i64 a,.int .i64 b,.int .i64 c,.int .i64 n,.slice aa args.length acap] 79)).cell? ⟨w.heap.size,5,none⟩=some (.slice aa args.length acap):=by go_simp
 clear h hW W
 go_enter Try.func33,Try.ntmps33
 go_wp2_with (first
   | (go_at_call 60;(first | (with_reducible refine (mustA (by first | rfl | simp) hL.out).mono ?_));rintro e w1 ⟨rfl,hA,hK⟩;replace hL:=Lib.hid hA;clear hA;replace hT:=hT.trans (hK.mono hTs);replace hTs:=Nat.le_trans hTs hK.size;replace x0:=hK.cell (lt_cell x0) hne x0;replace x1:=hK.cell (lt_cell x1) hne x1;replace x2:=hK.cell (lt_cell x2) hne x2;replace x3:=hK.cell (lt_cell x3) hne x3;replace x4:=hK.cell (lt_cell x4) hne x4;replace x5:=hK.cell (lt_cell x5) hne x5;replace hbl:=hL.out.lt;clear hK)
   | (go_at_call 61;(first | (with_reducible refine (reg1A (by first | rfl | simp) hL.out (by first | with_reducible assumption | (unfold Ok;omega)) hr).mono ?_) | (with_reducible refine (reg2A (by first | rfl | simp) hL.out (by first | with_reducible assumption | (unfold Ok;omega)) hr).mono ?_) | (with_reducible refine (reg3A (by first | rfl | simp) hL.out (by first | with_reducible assumption | (unfold Ok;omega)) hr).mono ?_));rintro e w1 ⟨rfl,hA,hK⟩;replace hL:=Lib.hid hA;clear hA;replace hT:=hT.trans (hK.mono hTs);replace hTs:=Nat.le_trans hTs hK.size;replace x0:=hK.cell (lt_cell x0) hne x0;replace x1:=hK.cell (lt_cell x1) hne x1;replace x2:=hK.cell (lt_cell x2) hne x2;replace x3:=hK.cell (lt_cell x3) hne x3;replace x4:=hK.cell (lt_cell x4) hne x4;replace x5:=hK.cell (lt_cell x5) hne x5;replace hbl:=hL.out.lt;clear hK)
   | (go_at_call 62;(first | (with_reducible refine (nought1A (by first | rfl | simp) hL.out).mono ?_) | (with_reducible refine (nought2A (by first | rfl | simp) hL.out).mono ?_));rintro e w1 ⟨rfl,hA,hK⟩;replace hL:=Lib.hid hA;clear hA;replace hT:=hT.trans (hK.mono hTs);replace hTs:=Nat.le_trans hTs hK.size;replace x0:=hK.cell (lt_cell x0) hne x0;replace x1:=hK.cell (lt_cell x1) hne x1;replace x2:=hK.cell (lt_cell x2) hne x2;replace x3:=hK.cell (lt_cell x3) hne x3;replace x4:=hK.cell (lt_cell x4) hne x4;replace x5:=hK.cell (lt_cell x5) hne x5;replace hbl:=hL.out.lt;clear hK)
   | (go_at_call 63;(first | (with_reducible refine (atA hL.out hd1 hd2).mono ?_));rintro e w1 ⟨rfl,hA,hK⟩;replace hL:=Lib.hid hA;clear hA;replace hT:=hT.trans (hK.mono hTs);replace hTs:=Nat.le_trans hTs hK.size;replace x0:=hK.cell (lt_cell x0) hne x0;replace x1:=hK.cell (lt_cell x1) hne x1;replace x2:=hK.cell (lt_cell x2) hne x2;replace x3:=hK.cell (lt_cell x3) hne x3;replace x4:=hK.cell (lt_cell x4) hne x4;replace x5:=hK.cell (lt_cell x5) hne x5;replace hbl:=hL.out.lt;clear hK)
   | (go_at_call 100;(first | (with_reducible refine (clsA hL.out hc1 hc2).mono ?_));rintro e w1 ⟨rfl,hA,hK⟩;replace hL:=Lib.hid hA;clear hA;replace hT:=hT.trans (hK.mono hTs);replace hTs:=Nat.le_trans hTs hK.size;replace x0:=hK.cell (lt_cell x0) hne x0;replace x1:=hK.cell (lt_cell x1) hne x1;replace x2:=hK.cell (lt_cell x2) hne x2;replace x3:=hK.cell (lt_cell x3) hne x3;replace x4:=hK.cell (lt_cell x4) hne x4;replace x5:=hK.cell (lt_cell x5) hne x5;replace hbl:=hL.out.lt;clear hK)
   | (go_at_call 30;refine (lin _ _ _ _).mono ?_;rintro e w1 ⟨rfl,rfl⟩))
 all_goals
  go_end0
  refine ⟨rfl,after_eq hL.out hT ?_⟩
  go_tidy
  have e0:((args.length:Int)==0)=decide (args.length=0):=by rw [Bool.eq_iff_iff];simp
  have e1:(n==wrap64 (wrap32 n))=decide (wrap32 n=n):=by rw [wrap64_id (wrap32_ok n),Bool.eq_iff_iff];simp;exact eq_comm
  have e2:(n==0)=decide (n=0):=rfl
  simp only [Rform.ins,Rform.body,Rform.num,Form.rng,e0,e1,e2]
  generalize decide (args.length=0)=A
  simp
  first
   | done
   | ac_rfl
   | (rw [Bool.eq_iff_iff];simp only [Bool.and_eq_true,decide_eq_true_eq];(try simp only [Rform.reg,Form.rng,decide_eq_true_eq]);omega)
   | grind
set_option maxRecDepth 100000 in
theorem ins7 (f:Fi) (m:Me) (a b c n:Int) (args:List Int) (lb:Nat) (ca:Option Addr) (ccap:Nat) (vm vp:Value) (da:Option Addr) (dcap:Nat) (vh:Value) (aa:Option Addr) (acap:Nat) (w:World)
  (h:Lk w lb (.slice ca f.classes.length ccap) vm vp (.slice da m.code.length dcap) vh m true) (hF:Fit f m f.classes.length ccap dcap) (oks:Ok a∧Ok b∧Ok c∧Ok n) (ha:args.length≤acap∧acap≤9223372036854775807) :
  Calls Try.prog 33 #[.pointer (some ⟨lb,0,none⟩),.agg #[.int .i64 7,.int .i64 a,.int .i64 b,.int .i64 c,.int .i64 n,.slice aa args.length acap]] w
   fun e w'=>e=.returned (.tuple #[])∧After w lb (.slice ca f.classes.length ccap) vm vp (.slice da m.code.length dcap) vh m (Rform.ins f m ⟨7,a,b,c,n,args⟩) w':=by
 obtain ⟨hc1,hc2,hd1,hd2,hr⟩:=hF
 obtain ⟨oa,ob,oc,on⟩:=oks
 obtain ⟨ha1,ha2⟩:=ha
 obtain ⟨hr1,hr2⟩:=hr
 have hr:0≤m.regs∧m.regs≤90:=⟨hr1,hr2⟩
 have hlt:=h.lt
 have hne:w.heap.size≠lb:=by omega
 obtain ⟨W,hW⟩:∃ W,Hid (w.alloc (.cells #[.int .i64 7,.int .i64 a,.int .i64 b,.int .i64 c,.int .i64 n,.slice aa args.length acap] 79)=W):=⟨_,rfl⟩
 have hL:=Lib.hid (h.next (Below.alloc (Below.refl _ _) (Nat.le_refl _) (.cells #[.int .i64 7,.int .i64 a,.int .i64 b,.int .i64 c,.int .i64 n,.slice aa args.length acap] 79)) h.lt)
 have hT:Keep w.heap.size lb w (w.alloc (.cells #[.int .i64 7,.int .i64 a,.int .i64 b,.int .i64 c,.int .i64 n,.slice aa args.length acap] 79)):=Keep.alloc (Keep.refl _ _ _) (Nat.le_refl _) _
 have hTs:=hT.size
 have hbl:=hL.out.lt
 have x0:(w.alloc (.cells #[.int .i64 7,.int .i64 a,.int .i64 b,.int .i64 c,.int .i64 n,.slice aa args.length acap] 79)).cell? ⟨w.heap.size,0,none⟩=some (.int .i64 7):=by go_simp
 have x1:(w.alloc (.cells #[.int .i64 7,.int .i64 a,.int .i64 b,.int .i64 c,.int .i64 n,.slice aa args.length acap] 79)).cell? ⟨w.heap.size,1,none⟩=some (.int .i64 a):=by go_simp
 have x2:(w.alloc (.cells #[.int .i64 7,.int .i64 a,.int .i64 b,.int .i64 c,.int .i64 n,.slice aa args.length acap] 79)).cell? ⟨w.heap.size,2,none⟩=some (.int .i64 b):=by go_simp
 have x3:(w.alloc (.cells #[.int .i64 7,.int .i64 a,.int .i64 b,.int .i64 c,.int .i64 n,.slice aa args.length acap] 79)).cell? ⟨w.heap.size,3,none⟩=some (.int .i64 c):=by go_simp
 have x4:(w.alloc (.cells #[.int .i64 7,.int .i64 a,.int .i64 b,.int .i64 c,.int .i64 n,.slice aa args.length acap] 79)).cell? ⟨w.heap.size,4,none⟩=some (.int .i64 n):=by go_simp
 have x5:(w.alloc (.cells #[.int .i64 7,.int .i64 a,.int .i64 b,.int .i64 c,.int .i64 n,.slice aa args.length acap] 79)).cell? ⟨w.heap.size,5,none⟩=some (.slice aa args.length acap):=by go_simp
 clear h hW W
 go_enter Try.func33,Try.ntmps33
 go_wp2_with (first
   | (go_at_call 60;(first | (with_reducible refine (mustA (by first | rfl | simp) hL.out).mono ?_));rintro e w1 ⟨rfl,hA,hK⟩;replace hL:=Lib.hid hA;clear hA;replace hT:=hT.trans (hK.mono hTs);replace hTs:=Nat.le_trans hTs hK.size;replace x0:=hK.cell (lt_cell x0) hne x0;replace x1:=hK.cell (lt_cell x1) hne x1;replace x2:=hK.cell (lt_cell x2) hne x2;replace x3:=hK.cell (lt_cell x3) hne x3;replace x4:=hK.cell (lt_cell x4) hne x4;replace x5:=hK.cell (lt_cell x5) hne x5;replace hbl:=hL.out.lt;clear hK)
   | (go_at_call 61;(first | (with_reducible refine (reg1A (by first | rfl | simp) hL.out (by first | with_reducible assumption | (unfold Ok;omega)) hr).mono ?_) | (with_reducible refine (reg2A (by first | rfl | simp) hL.out (by first | with_reducible assumption | (unfold Ok;omega)) hr).mono ?_) | (with_reducible refine (reg3A (by first | rfl | simp) hL.out (by first | with_reducible assumption | (unfold Ok;omega)) hr).mono ?_));rintro e w1 ⟨rfl,hA,hK⟩;replace hL:=Lib.hid hA;clear hA;replace hT:=hT.trans (hK.mono hTs);replace hTs:=Nat.le_trans hTs hK.size;replace x0:=hK.cell (lt_cell x0) hne x0;replace x1:=hK.cell (lt_cell x1) hne x1;replace x2:=hK.cell (lt_cell x2) hne x2;replace x3:=hK.cell (lt_cell x3) hne x3;replace x4:=hK.cell (lt_cell x4) hne x4;replace x5:=hK.cell (lt_cell x5) hne x5;replace hbl:=hL.out.lt;clear hK)
   | (go_at_call 62;(first | (with_reducible refine (nought1A (by first | rfl | simp) hL.out).mono ?_) | (with_reducible refine (nought2A (by first | rfl | simp) hL.out).mono ?_));rintro e w1 ⟨rfl,hA,hK⟩;replace hL:=Lib.hid hA;clear hA;replace hT:=hT.trans (hK.mono hTs);replace hTs:=Nat.le_trans hTs hK.size;replace x0:=hK.cell (lt_cell x0) hne x0;replace x1:=hK.cell (lt_cell x1) hne x1;replace x2:=hK.cell (lt_cell x2) hne x2;replace x3:=hK.cell (lt_cell x3) hne x3;replace x4:=hK.cell (lt_cell x4) hne x4;replace x5:=hK.cell (lt_cell x5) hne x5;replace hbl:=hL.out.lt;clear hK)
   | (go_at_call 63;(first | (with_reducible refine (atA hL.out hd1 hd2).mono ?_));rintro e w1 ⟨rfl,hA,hK⟩;replace hL:=Lib.hid hA;clear hA;replace hT:=hT.trans (hK.mono hTs);replace hTs:=Nat.le_trans hTs hK.size;replace x0:=hK.cell (lt_cell x0) hne x0;replace x1:=hK.cell (lt_cell x1) hne x1;replace x2:=hK.cell (lt_cell x2) hne x2;replace x3:=hK.cell (lt_cell x3) hne x3;replace x4:=hK.cell (lt_cell x4) hne x4;replace x5:=hK.cell (lt_cell x5) hne x5;replace hbl:=hL.out.lt;clear hK)
   | (go_at_call 100;(first | (with_reducible refine (clsA hL.out hc1 hc2).mono ?_));rintro e w1 ⟨rfl,hA,hK⟩;replace hL:=Lib.hid hA;clear hA;replace hT:=hT.trans (hK.mono hTs);replace hTs:=Nat.le_trans hTs hK.size;replace x0:=hK.cell (lt_cell x0) hne x0;replace x1:=hK.cell (lt_cell x1) hne x1;replace x2:=hK.cell (lt_cell x2) hne x2;replace x3:=hK.cell (lt_cell x3) hne x3;replace x4:=hK.cell (lt_cell x4) hne x4;replace x5:=hK.cell (lt_cell x5) hne x5;replace hbl:=hL.out.lt;clear hK)
   | (go_at_call 30;refine (lin _ _ _ _).mono ?_;rintro e w1 ⟨rfl,rfl⟩))
 all_goals
  go_end0
  refine ⟨rfl,after_eq hL.out hT ?_⟩
  go_tidy
  have e0:((args.length:Int)==0)=decide (args.length=0):=by rw [Bool.eq_iff_iff];simp
  have e1:(n==wrap64 (wrap32 n))=decide (wrap32 n=n):=by rw [wrap64_id (wrap32_ok n),Bool.eq_iff_iff];simp;exact eq_comm
  have e2:(n==0)=decide (n=0):=rfl
  simp only [Rform.ins,Rform.body,Rform.num,Form.rng,e0,e1,e2]
  generalize decide (args.length=0)=A
  simp
  first
   | done
   | ac_rfl
   | (rw [Bool.eq_iff_iff];simp only [Bool.and_eq_true,decide_eq_true_eq];(try simp only [Rform.reg,Form.rng,decide_eq_true_eq]);omega)
   | grind
set_option maxRecDepth 100000 in
theorem ins8 (f:Fi) (m:Me) (a b c n:Int) (args:List Int) (lb:Nat) (ca:Option Addr) (ccap:Nat) (vm vp:Value) (da:Option Addr) (dcap:Nat) (vh:Value) (aa:Option Addr) (acap:Nat) (w:World)
  (h:Lk w lb (.slice ca f.classes.length ccap) vm vp (.slice da m.code.length dcap) vh m true) (hF:Fit f m f.classes.length ccap dcap) (oks:Ok a∧Ok b∧Ok c∧Ok n) (ha:args.length≤acap∧acap≤9223372036854775807) :
  Calls Try.prog 33 #[.pointer (some ⟨lb,0,none⟩),.agg #[.int .i64 8,.int .i64 a,.int .i64 b,.int .i64 c,.int .i64 n,.slice aa args.length acap]] w
   fun e w'=>e=.returned (.tuple #[])∧After w lb (.slice ca f.classes.length ccap) vm vp (.slice da m.code.length dcap) vh m (Rform.ins f m ⟨8,a,b,c,n,args⟩) w':=by
 obtain ⟨hc1,hc2,hd1,hd2,hr⟩:=hF
 obtain ⟨oa,ob,oc,on⟩:=oks
 obtain ⟨ha1,ha2⟩:=ha
 obtain ⟨hr1,hr2⟩:=hr
 have hr:0≤m.regs∧m.regs≤90:=⟨hr1,hr2⟩
 have hlt:=h.lt
 have hne:w.heap.size≠lb:=by omega
 obtain ⟨W,hW⟩:∃ W,Hid (w.alloc (.cells #[.int .i64 8,.int .i64 a,.int .i64 b,.int .i64 c,.int .i64 n,.slice aa args.length acap] 79)=W):=⟨_,rfl⟩
 have hL:=Lib.hid (h.next (Below.alloc (Below.refl _ _) (Nat.le_refl _) (.cells #[.int .i64 8,.int .i64 a,.int .i64 b,.int .i64 c,.int .i64 n,.slice aa args.length acap] 79)) h.lt)
 have hT:Keep w.heap.size lb w (w.alloc (.cells #[.int .i64 8,.int .i64 a,.int .i64 b,.int .i64 c,.int .i64 n,.slice aa args.length acap] 79)):=Keep.alloc (Keep.refl _ _ _) (Nat.le_refl _) _
 have hTs:=hT.size
 have hbl:=hL.out.lt
 have x0:(w.alloc (.cells #[.int .i64 8,.int .i64 a,.int .i64 b,.int .i64 c,.int .i64 n,.slice aa args.length acap] 79)).cell? ⟨w.heap.size,0,none⟩=some (.int .i64 8):=by go_simp
 have x1:(w.alloc (.cells #[.int .i64 8,.int .i64 a,.int .i64 b,.int .i64 c,.int .i64 n,.slice aa args.length acap] 79)).cell? ⟨w.heap.size,1,none⟩=some (.int .i64 a):=by go_simp
 have x2:(w.alloc (.cells #[.int .i64 8,.int .i64 a,.int .i64 b,.int .i64 c,.int .i64 n,.slice aa args.length acap] 79)).cell? ⟨w.heap.size,2,none⟩=some (.int .i64 b):=by go_simp
 have x3:(w.alloc (.cells #[.int .i64 8,.int .i64 a,.int .i64 b,.int .i64 c,.int .i64 n,.slice aa args.length acap] 79)).cell? ⟨w.heap.size,3,none⟩=some (.int .i64 c):=by go_simp
 have x4:(w.alloc (.cells #[.int .i64 8,.int .i64 a,.int .i64 b,.int .i64 c,.int .i64 n,.slice aa args.length acap] 79)).cell? ⟨w.heap.size,4,none⟩=some (.int .i64 n):=by go_simp
 have x5:(w.alloc (.cells #[.int .i64 8,.int .i64 a,.int .i64 b,.int .i64 c,.int .i64 n,.slice aa args.length acap] 79)).cell? ⟨w.heap.size,5,none⟩=some (.slice aa args.length acap):=by go_simp
 clear h hW W
 go_enter Try.func33,Try.ntmps33
 go_wp2_with (first
   | (go_at_call 60;(first | (with_reducible refine (mustA (by first | rfl | simp) hL.out).mono ?_));rintro e w1 ⟨rfl,hA,hK⟩;replace hL:=Lib.hid hA;clear hA;replace hT:=hT.trans (hK.mono hTs);replace hTs:=Nat.le_trans hTs hK.size;replace x0:=hK.cell (lt_cell x0) hne x0;replace x1:=hK.cell (lt_cell x1) hne x1;replace x2:=hK.cell (lt_cell x2) hne x2;replace x3:=hK.cell (lt_cell x3) hne x3;replace x4:=hK.cell (lt_cell x4) hne x4;replace x5:=hK.cell (lt_cell x5) hne x5;replace hbl:=hL.out.lt;clear hK)
   | (go_at_call 61;(first | (with_reducible refine (reg1A (by first | rfl | simp) hL.out (by first | with_reducible assumption | (unfold Ok;omega)) hr).mono ?_) | (with_reducible refine (reg2A (by first | rfl | simp) hL.out (by first | with_reducible assumption | (unfold Ok;omega)) hr).mono ?_) | (with_reducible refine (reg3A (by first | rfl | simp) hL.out (by first | with_reducible assumption | (unfold Ok;omega)) hr).mono ?_));rintro e w1 ⟨rfl,hA,hK⟩;replace hL:=Lib.hid hA;clear hA;replace hT:=hT.trans (hK.mono hTs);replace hTs:=Nat.le_trans hTs hK.size;replace x0:=hK.cell (lt_cell x0) hne x0;replace x1:=hK.cell (lt_cell x1) hne x1;replace x2:=hK.cell (lt_cell x2) hne x2;replace x3:=hK.cell (lt_cell x3) hne x3;replace x4:=hK.cell (lt_cell x4) hne x4;replace x5:=hK.cell (lt_cell x5) hne x5;replace hbl:=hL.out.lt;clear hK)
   | (go_at_call 62;(first | (with_reducible refine (nought1A (by first | rfl | simp) hL.out).mono ?_) | (with_reducible refine (nought2A (by first | rfl | simp) hL.out).mono ?_));rintro e w1 ⟨rfl,hA,hK⟩;replace hL:=Lib.hid hA;clear hA;replace hT:=hT.trans (hK.mono hTs);replace hTs:=Nat.le_trans hTs hK.size;replace x0:=hK.cell (lt_cell x0) hne x0;replace x1:=hK.cell (lt_cell x1) hne x1;replace x2:=hK.cell (lt_cell x2) hne x2;replace x3:=hK.cell (lt_cell x3) hne x3;replace x4:=hK.cell (lt_cell x4) hne x4;replace x5:=hK.cell (lt_cell x5) hne x5;replace hbl:=hL.out.lt;clear hK)
   | (go_at_call 63;(first | (with_reducible refine (atA hL.out hd1 hd2).mono ?_));rintro e w1 ⟨rfl,hA,hK⟩;replace hL:=Lib.hid hA;clear hA;replace hT:=hT.trans (hK.mono hTs);replace hTs:=Nat.le_trans hTs hK.size;replace x0:=hK.cell (lt_cell x0) hne x0;replace x1:=hK.cell (lt_cell x1) hne x1;replace x2:=hK.cell (lt_cell x2) hne x2;replace x3:=hK.cell (lt_cell x3) hne x3;replace x4:=hK.cell (lt_cell x4) hne x4;replace x5:=hK.cell (lt_cell x5) hne x5;replace hbl:=hL.out.lt;clear hK)
   | (go_at_call 100;(first | (with_reducible refine (clsA hL.out hc1 hc2).mono ?_));rintro e w1 ⟨rfl,hA,hK⟩;replace hL:=Lib.hid hA;clear hA;replace hT:=hT.trans (hK.mono hTs);replace hTs:=Nat.le_trans hTs hK.size;replace x0:=hK.cell (lt_cell x0) hne x0;replace x1:=hK.cell (lt_cell x1) hne x1;replace x2:=hK.cell (lt_cell x2) hne x2;replace x3:=hK.cell (lt_cell x3) hne x3;replace x4:=hK.cell (lt_cell x4) hne x4;replace x5:=hK.cell (lt_cell x5) hne x5;replace hbl:=hL.out.lt;clear hK)
   | (go_at_call 30;refine (lin _ _ _ _).mono ?_;rintro e w1 ⟨rfl,rfl⟩))
 all_goals
  go_end0
  refine ⟨rfl,after_eq hL.out hT ?_⟩
  go_tidy
  have e0:((args.length:Int)==0)=decide (args.length=0):=by rw [Bool.eq_iff_iff];simp
  have e1:(n==wrap64 (wrap32 n))=decide (wrap32 n=n):=by rw [wrap64_id (wrap32_ok n),Bool.eq_iff_iff];simp;exact eq_comm
  have e2:(n==0)=decide (n=0):=rfl
  simp only [Rform.ins,Rform.body,Rform.num,Form.rng,e0,e1,e2]
  generalize decide (args.length=0)=A
  simp
  first
   | done
   | ac_rfl
   | (rw [Bool.eq_iff_iff];simp only [Bool.and_eq_true,decide_eq_true_eq];(try simp only [Rform.reg,Form.rng,decide_eq_true_eq]);omega)
   | grind
set_option maxRecDepth 100000 in
theorem ins9 (f:Fi) (m:Me) (a b c n:Int) (args:List Int) (lb:Nat) (ca:Option Addr) (ccap:Nat) (vm vp:Value) (da:Option Addr) (dcap:Nat) (vh:Value) (aa:Option Addr) (acap:Nat) (w:World)
  (h:Lk w lb (.slice ca f.classes.length ccap) vm vp (.slice da m.code.length dcap) vh m true) (hF:Fit f m f.classes.length ccap dcap) (oks:Ok a∧Ok b∧Ok c∧Ok n) (ha:args.length≤acap∧acap≤9223372036854775807) :
  Calls Try.prog 33 #[.pointer (some ⟨lb,0,none⟩),.agg #[.int .i64 9,.int .i64 a,.int .i64 b,.int .i64 c,.int .i64 n,.slice aa args.length acap]] w
   fun e w'=>e=.returned (.tuple #[])∧After w lb (.slice ca f.classes.length ccap) vm vp (.slice da m.code.length dcap) vh m (Rform.ins f m ⟨9,a,b,c,n,args⟩) w':=by
 obtain ⟨hc1,hc2,hd1,hd2,hr⟩:=hF
 obtain ⟨oa,ob,oc,on⟩:=oks
 obtain ⟨ha1,ha2⟩:=ha
 obtain ⟨hr1,hr2⟩:=hr
 have hr:0≤m.regs∧m.regs≤90:=⟨hr1,hr2⟩
 have hlt:=h.lt
 have hne:w.heap.size≠lb:=by omega
 obtain ⟨W,hW⟩:∃ W,Hid (w.alloc (.cells #[.int .i64 9,.int .i64 a,.int .i64 b,.int .i64 c,.int .i64 n,.slice aa args.length acap] 79)=W):=⟨_,rfl⟩
 have hL:=Lib.hid (h.next (Below.alloc (Below.refl _ _) (Nat.le_refl _) (.cells #[.int .i64 9,.int .i64 a,.int .i64 b,.int .i64 c,.int .i64 n,.slice aa args.length acap] 79)) h.lt)
 have hT:Keep w.heap.size lb w (w.alloc (.cells #[.int .i64 9,.int .i64 a,.int .i64 b,.int .i64 c,.int .i64 n,.slice aa args.length acap] 79)):=Keep.alloc (Keep.refl _ _ _) (Nat.le_refl _) _
 have hTs:=hT.size
 have hbl:=hL.out.lt
 have x0:(w.alloc (.cells #[.int .i64 9,.int .i64 a,.int .i64 b,.int .i64 c,.int .i64 n,.slice aa args.length acap] 79)).cell? ⟨w.heap.size,0,none⟩=some (.int .i64 9):=by go_simp
 have x1:(w.alloc (.cells #[.int .i64 9,.int .i64 a,.int .i64 b,.int .i64 c,.int .i64 n,.slice aa args.length acap] 79)).cell? ⟨w.heap.size,1,none⟩=some (.int .i64 a):=by go_simp
 have x2:(w.alloc (.cells #[.int .i64 9,.int .i64 a,.int .i64 b,.int .i64 c,.int .i64 n,.slice aa args.length acap] 79)).cell? ⟨w.heap.size,2,none⟩=some (.int .i64 b):=by go_simp
 have x3:(w.alloc (.cells #[.int .i64 9,.int .i64 a,.int .i64 b,.int .i64 c,.int .i64 n,.slice aa args.length acap] 79)).cell? ⟨w.heap.size,3,none⟩=some (.int .i64 c):=by go_simp
 have x4:(w.alloc (.cells #[.int .i64 9,.int .i64 a,.int .i64 b,.int .i64 c,.int .i64 n,.slice aa args.length acap] 79)).cell? ⟨w.heap.size,4,none⟩=some (.int .i64 n):=by go_simp
 have x5:(w.alloc (.cells #[.int .i64 9,.int .i64 a,.int .i64 b,.int .i64 c,.int .i64 n,.slice aa args.length acap] 79)).cell? ⟨w.heap.size,5,none⟩=some (.slice aa args.length acap):=by go_simp
 clear h hW W
 go_enter Try.func33,Try.ntmps33
 go_wp2_with (first
   | (go_at_call 60;(first | (with_reducible refine (mustA (by first | rfl | simp) hL.out).mono ?_));rintro e w1 ⟨rfl,hA,hK⟩;replace hL:=Lib.hid hA;clear hA;replace hT:=hT.trans (hK.mono hTs);replace hTs:=Nat.le_trans hTs hK.size;replace x0:=hK.cell (lt_cell x0) hne x0;replace x1:=hK.cell (lt_cell x1) hne x1;replace x2:=hK.cell (lt_cell x2) hne x2;replace x3:=hK.cell (lt_cell x3) hne x3;replace x4:=hK.cell (lt_cell x4) hne x4;replace x5:=hK.cell (lt_cell x5) hne x5;replace hbl:=hL.out.lt;clear hK)
   | (go_at_call 61;(first | (with_reducible refine (reg1A (by first | rfl | simp) hL.out (by first | with_reducible assumption | (unfold Ok;omega)) hr).mono ?_) | (with_reducible refine (reg2A (by first | rfl | simp) hL.out (by first | with_reducible assumption | (unfold Ok;omega)) hr).mono ?_) | (with_reducible refine (reg3A (by first | rfl | simp) hL.out (by first | with_reducible assumption | (unfold Ok;omega)) hr).mono ?_));rintro e w1 ⟨rfl,hA,hK⟩;replace hL:=Lib.hid hA;clear hA;replace hT:=hT.trans (hK.mono hTs);replace hTs:=Nat.le_trans hTs hK.size;replace x0:=hK.cell (lt_cell x0) hne x0;replace x1:=hK.cell (lt_cell x1) hne x1;replace x2:=hK.cell (lt_cell x2) hne x2;replace x3:=hK.cell (lt_cell x3) hne x3;replace x4:=hK.cell (lt_cell x4) hne x4;replace x5:=hK.cell (lt_cell x5) hne x5;replace hbl:=hL.out.lt;clear hK)
   | (go_at_call 62;(first | (with_reducible refine (nought1A (by first | rfl | simp) hL.out).mono ?_) | (with_reducible refine (nought2A (by first | rfl | simp) hL.out).mono ?_));rintro e w1 ⟨rfl,hA,hK⟩;replace hL:=Lib.hid hA;clear hA;replace hT:=hT.trans (hK.mono hTs);replace hTs:=Nat.le_trans hTs hK.size;replace x0:=hK.cell (lt_cell x0) hne x0;replace x1:=hK.cell (lt_cell x1) hne x1;replace x2:=hK.cell (lt_cell x2) hne x2;replace x3:=hK.cell (lt_cell x3) hne x3;replace x4:=hK.cell (lt_cell x4) hne x4;replace x5:=hK.cell (lt_cell x5) hne x5;replace hbl:=hL.out.lt;clear hK)
   | (go_at_call 63;(first | (with_reducible refine (atA hL.out hd1 hd2).mono ?_));rintro e w1 ⟨rfl,hA,hK⟩;replace hL:=Lib.hid hA;clear hA;replace hT:=hT.trans (hK.mono hTs);replace hTs:=Nat.le_trans hTs hK.size;replace x0:=hK.cell (lt_cell x0) hne x0;replace x1:=hK.cell (lt_cell x1) hne x1;replace x2:=hK.cell (lt_cell x2) hne x2;replace x3:=hK.cell (lt_cell x3) hne x3;replace x4:=hK.cell (lt_cell x4) hne x4;replace x5:=hK.cell (lt_cell x5) hne x5;replace hbl:=hL.out.lt;clear hK)
   | (go_at_call 100;(first | (with_reducible refine (clsA hL.out hc1 hc2).mono ?_));rintro e w1 ⟨rfl,hA,hK⟩;replace hL:=Lib.hid hA;clear hA;replace hT:=hT.trans (hK.mono hTs);replace hTs:=Nat.le_trans hTs hK.size;replace x0:=hK.cell (lt_cell x0) hne x0;replace x1:=hK.cell (lt_cell x1) hne x1;replace x2:=hK.cell (lt_cell x2) hne x2;replace x3:=hK.cell (lt_cell x3) hne x3;replace x4:=hK.cell (lt_cell x4) hne x4;replace x5:=hK.cell (lt_cell x5) hne x5;replace hbl:=hL.out.lt;clear hK)
   | (go_at_call 30;refine (lin _ _ _ _).mono ?_;rintro e w1 ⟨rfl,rfl⟩))
 all_goals
  go_end0
  refine ⟨rfl,after_eq hL.out hT ?_⟩
  go_tidy
  have e0:((args.length:Int)==0)=decide (args.length=0):=by rw [Bool.eq_iff_iff];simp
  have e1:(n==wrap64 (wrap32 n))=decide (wrap32 n=n):=by rw [wrap64_id (wrap32_ok n),Bool.eq_iff_iff];simp;exact eq_comm
  have e2:(n==0)=decide (n=0):=rfl
  simp only [Rform.ins,Rform.body,Rform.num,Form.rng,e0,e1,e2]
  generalize decide (args.length=0)=A
  simp
  first
   | done
   | ac_rfl
   | (rw [Bool.eq_iff_iff];simp only [Bool.and_eq_true,decide_eq_true_eq];(try simp only [Rform.reg,Form.rng,decide_eq_true_eq]);omega)
   | grind
set_option maxRecDepth 100000 in
theorem ins10 (f:Fi) (m:Me) (a b c n:Int) (args:List Int) (lb:Nat) (ca:Option Addr) (ccap:Nat) (vm vp:Value) (da:Option Addr) (dcap:Nat) (vh:Value) (aa:Option Addr) (acap:Nat) (w:World)
  (h:Lk w lb (.slice ca f.classes.length ccap) vm vp (.slice da m.code.length dcap) vh m true) (hF:Fit f m f.classes.length ccap dcap) (oks:Ok a∧Ok b∧Ok c∧Ok n) (ha:args.length≤acap∧acap≤9223372036854775807) :
  Calls Try.prog 33 #[.pointer (some ⟨lb,0,none⟩),.agg #[.int .i64 10,.int .i64 a,.int .i64 b,.int .i64 c,.int .i64 n,.slice aa args.length acap]] w
   fun e w'=>e=.returned (.tuple #[])∧After w lb (.slice ca f.classes.length ccap) vm vp (.slice da m.code.length dcap) vh m (Rform.ins f m ⟨10,a,b,c,n,args⟩) w':=by
 obtain ⟨hc1,hc2,hd1,hd2,hr⟩:=hF
 obtain ⟨oa,ob,oc,on⟩:=oks
 obtain ⟨ha1,ha2⟩:=ha
 obtain ⟨hr1,hr2⟩:=hr
 have hr:0≤m.regs∧m.regs≤90:=⟨hr1,hr2⟩
 have hlt:=h.lt
 have hne:w.heap.size≠lb:=by omega
 obtain ⟨W,hW⟩:∃ W,Hid (w.alloc (.cells #[.int .i64 10,.int .i64 a,.int .i64 b,.int .i64 c,.int .i64 n,.slice aa args.length acap] 79)=W):=⟨_,rfl⟩
 have hL:=Lib.hid (h.next (Below.alloc (Below.refl _ _) (Nat.le_refl _) (.cells #[.int .i64 10,.int .i64 a,.int .i64 b,.int .i64 c,.int .i64 n,.slice aa args.length acap] 79)) h.lt)
 have hT:Keep w.heap.size lb w (w.alloc (.cells #[.int .i64 10,.int .i64 a,.int .i64 b,.int .i64 c,.int .i64 n,.slice aa args.length acap] 79)):=Keep.alloc (Keep.refl _ _ _) (Nat.le_refl _) _
 have hTs:=hT.size
 have hbl:=hL.out.lt
 have x0:(w.alloc (.cells #[.int .i64 10,.int .i64 a,.int .i64 b,.int .i64 c,.int .i64 n,.slice aa args.length acap] 79)).cell? ⟨w.heap.size,0,none⟩=some (.int .i64 10):=by go_simp
 have x1:(w.alloc (.cells #[.int .i64 10,.int .i64 a,.int .i64 b,.int .i64 c,.int .i64 n,.slice aa args.length acap] 79)).cell? ⟨w.heap.size,1,none⟩=some (.int .i64 a):=by go_simp
 have x2:(w.alloc (.cells #[.int .i64 10,.int .i64 a,.int .i64 b,.int .i64 c,.int .i64 n,.slice aa args.length acap] 79)).cell? ⟨w.heap.size,2,none⟩=some (.int .i64 b):=by go_simp
 have x3:(w.alloc (.cells #[.int .i64 10,.int .i64 a,.int .i64 b,.int .i64 c,.int .i64 n,.slice aa args.length acap] 79)).cell? ⟨w.heap.size,3,none⟩=some (.int .i64 c):=by go_simp
 have x4:(w.alloc (.cells #[.int .i64 10,.int .i64 a,.int .i64 b,.int .i64 c,.int .i64 n,.slice aa args.length acap] 79)).cell? ⟨w.heap.size,4,none⟩=some (.int .i64 n):=by go_simp
 have x5:(w.alloc (.cells #[.int .i64 10,.int .i64 a,.int .i64 b,.int .i64 c,.int .i64 n,.slice aa args.length acap] 79)).cell? ⟨w.heap.size,5,none⟩=some (.slice aa args.length acap):=by go_simp
 clear h hW W
 go_enter Try.func33,Try.ntmps33
 go_wp2_with (first
   | (go_at_call 60;(first | (with_reducible refine (mustA (by first | rfl | simp) hL.out).mono ?_));rintro e w1 ⟨rfl,hA,hK⟩;replace hL:=Lib.hid hA;clear hA;replace hT:=hT.trans (hK.mono hTs);replace hTs:=Nat.le_trans hTs hK.size;replace x0:=hK.cell (lt_cell x0) hne x0;replace x1:=hK.cell (lt_cell x1) hne x1;replace x2:=hK.cell (lt_cell x2) hne x2;replace x3:=hK.cell (lt_cell x3) hne x3;replace x4:=hK.cell (lt_cell x4) hne x4;replace x5:=hK.cell (lt_cell x5) hne x5;replace hbl:=hL.out.lt;clear hK)
   | (go_at_call 61;(first | (with_reducible refine (reg1A (by first | rfl | simp) hL.out (by first | with_reducible assumption | (unfold Ok;omega)) hr).mono ?_) | (with_reducible refine (reg2A (by first | rfl | simp) hL.out (by first | with_reducible assumption | (unfold Ok;omega)) hr).mono ?_) | (with_reducible refine (reg3A (by first | rfl | simp) hL.out (by first | with_reducible assumption | (unfold Ok;omega)) hr).mono ?_));rintro e w1 ⟨rfl,hA,hK⟩;replace hL:=Lib.hid hA;clear hA;replace hT:=hT.trans (hK.mono hTs);replace hTs:=Nat.le_trans hTs hK.size;replace x0:=hK.cell (lt_cell x0) hne x0;replace x1:=hK.cell (lt_cell x1) hne x1;replace x2:=hK.cell (lt_cell x2) hne x2;replace x3:=hK.cell (lt_cell x3) hne x3;replace x4:=hK.cell (lt_cell x4) hne x4;replace x5:=hK.cell (lt_cell x5) hne x5;replace hbl:=hL.out.lt;clear hK)
   | (go_at_call 62;(first | (with_reducible refine (nought1A (by first | rfl | simp) hL.out).mono ?_) | (with_reducible refine (nought2A (by first | rfl | simp) hL.out).mono ?_));rintro e w1 ⟨rfl,hA,hK⟩;replace hL:=Lib.hid hA;clear hA;replace hT:=hT.trans (hK.mono hTs);replace hTs:=Nat.le_trans hTs hK.size;replace x0:=hK.cell (lt_cell x0) hne x0;replace x1:=hK.cell (lt_cell x1) hne x1;replace x2:=hK.cell (lt_cell x2) hne x2;replace x3:=hK.cell (lt_cell x3) hne x3;replace x4:=hK.cell (lt_cell x4) hne x4;replace x5:=hK.cell (lt_cell x5) hne x5;replace hbl:=hL.out.lt;clear hK)
   | (go_at_call 63;(first | (with_reducible refine (atA hL.out hd1 hd2).mono ?_));rintro e w1 ⟨rfl,hA,hK⟩;replace hL:=Lib.hid hA;clear hA;replace hT:=hT.trans (hK.mono hTs);replace hTs:=Nat.le_trans hTs hK.size;replace x0:=hK.cell (lt_cell x0) hne x0;replace x1:=hK.cell (lt_cell x1) hne x1;replace x2:=hK.cell (lt_cell x2) hne x2;replace x3:=hK.cell (lt_cell x3) hne x3;replace x4:=hK.cell (lt_cell x4) hne x4;replace x5:=hK.cell (lt_cell x5) hne x5;replace hbl:=hL.out.lt;clear hK)
   | (go_at_call 100;(first | (with_reducible refine (clsA hL.out hc1 hc2).mono ?_));rintro e w1 ⟨rfl,hA,hK⟩;replace hL:=Lib.hid hA;clear hA;replace hT:=hT.trans (hK.mono hTs);replace hTs:=Nat.le_trans hTs hK.size;replace x0:=hK.cell (lt_cell x0) hne x0;replace x1:=hK.cell (lt_cell x1) hne x1;replace x2:=hK.cell (lt_cell x2) hne x2;replace x3:=hK.cell (lt_cell x3) hne x3;replace x4:=hK.cell (lt_cell x4) hne x4;replace x5:=hK.cell (lt_cell x5) hne x5;replace hbl:=hL.out.lt;clear hK)
   | (go_at_call 30;refine (lin _ _ _ _).mono ?_;rintro e w1 ⟨rfl,rfl⟩))
 all_goals
  go_end0
  refine ⟨rfl,after_eq hL.out hT ?_⟩
  go_tidy
  have e0:((args.length:Int)==0)=decide (args.length=0):=by rw [Bool.eq_iff_iff];simp
  have e1:(n==wrap64 (wrap32 n))=decide (wrap32 n=n):=by rw [wrap64_id (wrap32_ok n),Bool.eq_iff_iff];simp;exact eq_comm
  have e2:(n==0)=decide (n=0):=rfl
  simp only [Rform.ins,Rform.body,Rform.num,Form.rng,e0,e1,e2]
  generalize decide (args.length=0)=A
  simp
  first
   | done
   | ac_rfl
   | (rw [Bool.eq_iff_iff];simp only [Bool.and_eq_true,decide_eq_true_eq];(try simp only [Rform.reg,Form.rng,decide_eq_true_eq]);omega)
   | grind
set_option maxRecDepth 100000 in
theorem ins11 (f:Fi) (m:Me) (a b c n:Int) (args:List Int) (lb:Nat) (ca:Option Addr) (ccap:Nat) (vm vp:Value) (da:Option Addr) (dcap:Nat) (vh:Value) (aa:Option Addr) (acap:Nat) (w:World)
  (h:Lk w lb (.slice ca f.classes.length ccap) vm vp (.slice da m.code.length dcap) vh m true) (hF:Fit f m f.classes.length ccap dcap) (oks:Ok a∧Ok b∧Ok c∧Ok n) (ha:args.length≤acap∧acap≤9223372036854775807) :
  Calls Try.prog 33 #[.pointer (some ⟨lb,0,none⟩),.agg #[.int .i64 11,.int .i64 a,.int .i64 b,.int .i64 c,.int .i64 n,.slice aa args.length acap]] w
   fun e w'=>e=.returned (.tuple #[])∧After w lb (.slice ca f.classes.length ccap) vm vp (.slice da m.code.length dcap) vh m (Rform.ins f m ⟨11,a,b,c,n,args⟩) w':=by
 obtain ⟨hc1,hc2,hd1,hd2,hr⟩:=hF
 obtain ⟨oa,ob,oc,on⟩:=oks
 obtain ⟨ha1,ha2⟩:=ha
 obtain ⟨hr1,hr2⟩:=hr
 have hr:0≤m.regs∧m.regs≤90:=⟨hr1,hr2⟩
 have hlt:=h.lt
 have hne:w.heap.size≠lb:=by omega
 obtain ⟨W,hW⟩:∃ W,Hid (w.alloc (.cells #[.int .i64 11,.int .i64 a,.int .i64 b,.int .i64 c,.int .i64 n,.slice aa args.length acap] 79)=W):=⟨_,rfl⟩
 have hL:=Lib.hid (h.next (Below.alloc (Below.refl _ _) (Nat.le_refl _) (.cells #[.int .i64 11,.int .i64 a,.int .i64 b,.int .i64 c,.int .i64 n,.slice aa args.length acap] 79)) h.lt)
 have hT:Keep w.heap.size lb w (w.alloc (.cells #[.int .i64 11,.int .i64 a,.int .i64 b,.int .i64 c,.int .i64 n,.slice aa args.length acap] 79)):=Keep.alloc (Keep.refl _ _ _) (Nat.le_refl _) _
 have hTs:=hT.size
 have hbl:=hL.out.lt
 have x0:(w.alloc (.cells #[.int .i64 11,.int .i64 a,.int .i64 b,.int .i64 c,.int .i64 n,.slice aa args.length acap] 79)).cell? ⟨w.heap.size,0,none⟩=some (.int .i64 11):=by go_simp
 have x1:(w.alloc (.cells #[.int .i64 11,.int .i64 a,.int .i64 b,.int .i64 c,.int .i64 n,.slice aa args.length acap] 79)).cell? ⟨w.heap.size,1,none⟩=some (.int .i64 a):=by go_simp
 have x2:(w.alloc (.cells #[.int .i64 11,.int .i64 a,.int .i64 b,.int .i64 c,.int .i64 n,.slice aa args.length acap] 79)).cell? ⟨w.heap.size,2,none⟩=some (.int .i64 b):=by go_simp
 have x3:(w.alloc (.cells #[.int .i64 11,.int .i64 a,.int .i64 b,.int .i64 c,.int .i64 n,.slice aa args.length acap] 79)).cell? ⟨w.heap.size,3,none⟩=some (.int .i64 c):=by go_simp
 have x4:(w.alloc (.cells #[.int .i64 11,.int .i64 a,.int .i64 b,.int .i64 c,.int .i64 n,.slice aa args.length acap] 79)).cell? ⟨w.heap.size,4,none⟩=some (.int .i64 n):=by go_simp
 have x5:(w.alloc (.cells #[.int .i64 11,.int .i64 a,.int .i64 b,.int .i64 c,.int .i64 n,.slice aa args.length acap] 79)).cell? ⟨w.heap.size,5,none⟩=some (.slice aa args.length acap):=by go_simp
 clear h hW W
 go_enter Try.func33,Try.ntmps33
 go_wp2_with (first
   | (go_at_call 60;(first | (with_reducible refine (mustA (by first | rfl | simp) hL.out).mono ?_));rintro e w1 ⟨rfl,hA,hK⟩;replace hL:=Lib.hid hA;clear hA;replace hT:=hT.trans (hK.mono hTs);replace hTs:=Nat.le_trans hTs hK.size;replace x0:=hK.cell (lt_cell x0) hne x0;replace x1:=hK.cell (lt_cell x1) hne x1;replace x2:=hK.cell (lt_cell x2) hne x2;replace x3:=hK.cell (lt_cell x3) hne x3;replace x4:=hK.cell (lt_cell x4) hne x4;replace x5:=hK.cell (lt_cell x5) hne x5;replace hbl:=hL.out.lt;clear hK)
   | (go_at_call 61;(first | (with_reducible refine (reg1A (by first | rfl | simp) hL.out (by first | with_reducible assumption | (unfold Ok;omega)) hr).mono ?_) | (with_reducible refine (reg2A (by first | rfl | simp) hL.out (by first | with_reducible assumption | (unfold Ok;omega)) hr).mono ?_) | (with_reducible refine (reg3A (by first | rfl | simp) hL.out (by first | with_reducible assumption | (unfold Ok;omega)) hr).mono ?_));rintro e w1 ⟨rfl,hA,hK⟩;replace hL:=Lib.hid hA;clear hA;replace hT:=hT.trans (hK.mono hTs);replace hTs:=Nat.le_trans hTs hK.size;replace x0:=hK.cell (lt_cell x0) hne x0;replace x1:=hK.cell (lt_cell x1) hne x1;replace x2:=hK.cell (lt_cell x2) hne x2;replace x3:=hK.cell (lt_cell x3) hne x3;replace x4:=hK.cell (lt_cell x4) hne x4;replace x5:=hK.cell (lt_cell x5) hne x5;replace hbl:=hL.out.lt;clear hK)
   | (go_at_call 62;(first | (with_reducible refine (nought1A (by first | rfl | simp) hL.out).mono ?_) | (with_reducible refine (nought2A (by first | rfl | simp) hL.out).mono ?_));rintro e w1 ⟨rfl,hA,hK⟩;replace hL:=Lib.hid hA;clear hA;replace hT:=hT.trans (hK.mono hTs);replace hTs:=Nat.le_trans hTs hK.size;replace x0:=hK.cell (lt_cell x0) hne x0;replace x1:=hK.cell (lt_cell x1) hne x1;replace x2:=hK.cell (lt_cell x2) hne x2;replace x3:=hK.cell (lt_cell x3) hne x3;replace x4:=hK.cell (lt_cell x4) hne x4;replace x5:=hK.cell (lt_cell x5) hne x5;replace hbl:=hL.out.lt;clear hK)
   | (go_at_call 63;(first | (with_reducible refine (atA hL.out hd1 hd2).mono ?_));rintro e w1 ⟨rfl,hA,hK⟩;replace hL:=Lib.hid hA;clear hA;replace hT:=hT.trans (hK.mono hTs);replace hTs:=Nat.le_trans hTs hK.size;replace x0:=hK.cell (lt_cell x0) hne x0;replace x1:=hK.cell (lt_cell x1) hne x1;replace x2:=hK.cell (lt_cell x2) hne x2;replace x3:=hK.cell (lt_cell x3) hne x3;replace x4:=hK.cell (lt_cell x4) hne x4;replace x5:=hK.cell (lt_cell x5) hne x5;replace hbl:=hL.out.lt;clear hK)
   | (go_at_call 100;(first | (with_reducible refine (clsA hL.out hc1 hc2).mono ?_));rintro e w1 ⟨rfl,hA,hK⟩;replace hL:=Lib.hid hA;clear hA;replace hT:=hT.trans (hK.mono hTs);replace hTs:=Nat.le_trans hTs hK.size;replace x0:=hK.cell (lt_cell x0) hne x0;replace x1:=hK.cell (lt_cell x1) hne x1;replace x2:=hK.cell (lt_cell x2) hne x2;replace x3:=hK.cell (lt_cell x3) hne x3;replace x4:=hK.cell (lt_cell x4) hne x4;replace x5:=hK.cell (lt_cell x5) hne x5;replace hbl:=hL.out.lt;clear hK)
   | (go_at_call 30;refine (lin _ _ _ _).mono ?_;rintro e w1 ⟨rfl,rfl⟩))
 all_goals
  go_end0
  refine ⟨rfl,after_eq hL.out hT ?_⟩
  go_tidy
  have e0:((args.length:Int)==0)=decide (args.length=0):=by rw [Bool.eq_iff_iff];simp
  have e1:(n==wrap64 (wrap32 n))=decide (wrap32 n=n):=by rw [wrap64_id (wrap32_ok n),Bool.eq_iff_iff];simp;exact eq_comm
  have e2:(n==0)=decide (n=0):=rfl
  simp only [Rform.ins,Rform.body,Rform.num,Form.rng,e0,e1,e2]
  generalize decide (args.length=0)=A
  simp
  first
   | done
   | ac_rfl
   | (rw [Bool.eq_iff_iff];simp only [Bool.and_eq_true,decide_eq_true_eq];(try simp only [Rform.reg,Form.rng,decide_eq_true_eq]);omega)
   | grind
set_option maxRecDepth 100000 in
theorem ins12 (f:Fi) (m:Me) (a b c n:Int) (args:List Int) (lb:Nat) (ca:Option Addr) (ccap:Nat) (vm vp:Value) (da:Option Addr) (dcap:Nat) (vh:Value) (aa:Option Addr) (acap:Nat) (w:World)
  (h:Lk w lb (.slice ca f.classes.length ccap) vm vp (.slice da m.code.length dcap) vh m true) (hF:Fit f m f.classes.length ccap dcap) (oks:Ok a∧Ok b∧Ok c∧Ok n) (ha:args.length≤acap∧acap≤9223372036854775807) :
  Calls Try.prog 33 #[.pointer (some ⟨lb,0,none⟩),.agg #[.int .i64 12,.int .i64 a,.int .i64 b,.int .i64 c,.int .i64 n,.slice aa args.length acap]] w
   fun e w'=>e=.returned (.tuple #[])∧After w lb (.slice ca f.classes.length ccap) vm vp (.slice da m.code.length dcap) vh m (Rform.ins f m ⟨12,a,b,c,n,args⟩) w':=by
 obtain ⟨hc1,hc2,hd1,hd2,hr⟩:=hF
 obtain ⟨oa,ob,oc,on⟩:=oks
 obtain ⟨ha1,ha2⟩:=ha
 obtain ⟨hr1,hr2⟩:=hr
 have hr:0≤m.regs∧m.regs≤90:=⟨hr1,hr2⟩
 have hlt:=h.lt
 have hne:w.heap.size≠lb:=by omega
 obtain ⟨W,hW⟩:∃ W,Hid (w.alloc (.cells #[.int .i64 12,.int .i64 a,.int .i64 b,.int .i64 c,.int .i64 n,.slice aa args.length acap] 79)=W):=⟨_,rfl⟩
 have hL:=Lib.hid (h.next (Below.alloc (Below.refl _ _) (Nat.le_refl _) (.cells #[.int .i64 12,.int .i64 a,.int .i64 b,.int .i64 c,.int .i64 n,.slice aa args.length acap] 79)) h.lt)
 have hT:Keep w.heap.size lb w (w.alloc (.cells #[.int .i64 12,.int .i64 a,.int .i64 b,.int .i64 c,.int .i64 n,.slice aa args.length acap] 79)):=Keep.alloc (Keep.refl _ _ _) (Nat.le_refl _) _
 have hTs:=hT.size
 have hbl:=hL.out.lt
 have x0:(w.alloc (.cells #[.int .i64 12,.int .i64 a,.int .i64 b,.int .i64 c,.int .i64 n,.slice aa args.length acap] 79)).cell? ⟨w.heap.size,0,none⟩=some (.int .i64 12):=by go_simp
 have x1:(w.alloc (.cells #[.int .i64 12,.int .i64 a,.int .i64 b,.int .i64 c,.int .i64 n,.slice aa args.length acap] 79)).cell? ⟨w.heap.size,1,none⟩=some (.int .i64 a):=by go_simp
 have x2:(w.alloc (.cells #[.int .i64 12,.int .i64 a,.int .i64 b,.int .i64 c,.int .i64 n,.slice aa args.length acap] 79)).cell? ⟨w.heap.size,2,none⟩=some (.int .i64 b):=by go_simp
 have x3:(w.alloc (.cells #[.int .i64 12,.int .i64 a,.int .i64 b,.int .i64 c,.int .i64 n,.slice aa args.length acap] 79)).cell? ⟨w.heap.size,3,none⟩=some (.int .i64 c):=by go_simp
 have x4:(w.alloc (.cells #[.int .i64 12,.int .i64 a,.int .i64 b,.int .i64 c,.int .i64 n,.slice aa args.length acap] 79)).cell? ⟨w.heap.size,4,none⟩=some (.int .i64 n):=by go_simp
 have x5:(w.alloc (.cells #[.int .i64 12,.int .i64 a,.int .i64 b,.int .i64 c,.int .i64 n,.slice aa args.length acap] 79)).cell? ⟨w.heap.size,5,none⟩=some (.slice aa args.length acap):=by go_simp
 clear h hW W
 go_enter Try.func33,Try.ntmps33
 go_wp2_with (first
   | (go_at_call 60;(first | (with_reducible refine (mustA (by first | rfl | simp) hL.out).mono ?_));rintro e w1 ⟨rfl,hA,hK⟩;replace hL:=Lib.hid hA;clear hA;replace hT:=hT.trans (hK.mono hTs);replace hTs:=Nat.le_trans hTs hK.size;replace x0:=hK.cell (lt_cell x0) hne x0;replace x1:=hK.cell (lt_cell x1) hne x1;replace x2:=hK.cell (lt_cell x2) hne x2;replace x3:=hK.cell (lt_cell x3) hne x3;replace x4:=hK.cell (lt_cell x4) hne x4;replace x5:=hK.cell (lt_cell x5) hne x5;replace hbl:=hL.out.lt;clear hK)
   | (go_at_call 61;(first | (with_reducible refine (reg1A (by first | rfl | simp) hL.out (by first | with_reducible assumption | (unfold Ok;omega)) hr).mono ?_) | (with_reducible refine (reg2A (by first | rfl | simp) hL.out (by first | with_reducible assumption | (unfold Ok;omega)) hr).mono ?_) | (with_reducible refine (reg3A (by first | rfl | simp) hL.out (by first | with_reducible assumption | (unfold Ok;omega)) hr).mono ?_));rintro e w1 ⟨rfl,hA,hK⟩;replace hL:=Lib.hid hA;clear hA;replace hT:=hT.trans (hK.mono hTs);replace hTs:=Nat.le_trans hTs hK.size;replace x0:=hK.cell (lt_cell x0) hne x0;replace x1:=hK.cell (lt_cell x1) hne x1;replace x2:=hK.cell (lt_cell x2) hne x2;replace x3:=hK.cell (lt_cell x3) hne x3;replace x4:=hK.cell (lt_cell x4) hne x4;replace x5:=hK.cell (lt_cell x5) hne x5;replace hbl:=hL.out.lt;clear hK)
   | (go_at_call 62;(first | (with_reducible refine (nought1A (by first | rfl | simp) hL.out).mono ?_) | (with_reducible refine (nought2A (by first | rfl | simp) hL.out).mono ?_));rintro e w1 ⟨rfl,hA,hK⟩;replace hL:=Lib.hid hA;clear hA;replace hT:=hT.trans (hK.mono hTs);replace hTs:=Nat.le_trans hTs hK.size;replace x0:=hK.cell (lt_cell x0) hne x0;replace x1:=hK.cell (lt_cell x1) hne x1;replace x2:=hK.cell (lt_cell x2) hne x2;replace x3:=hK.cell (lt_cell x3) hne x3;replace x4:=hK.cell (lt_cell x4) hne x4;replace x5:=hK.cell (lt_cell x5) hne x5;replace hbl:=hL.out.lt;clear hK)
   | (go_at_call 63;(first | (with_reducible refine (atA hL.out hd1 hd2).mono ?_));rintro e w1 ⟨rfl,hA,hK⟩;replace hL:=Lib.hid hA;clear hA;replace hT:=hT.trans (hK.mono hTs);replace hTs:=Nat.le_trans hTs hK.size;replace x0:=hK.cell (lt_cell x0) hne x0;replace x1:=hK.cell (lt_cell x1) hne x1;replace x2:=hK.cell (lt_cell x2) hne x2;replace x3:=hK.cell (lt_cell x3) hne x3;replace x4:=hK.cell (lt_cell x4) hne x4;replace x5:=hK.cell (lt_cell x5) hne x5;replace hbl:=hL.out.lt;clear hK)
   | (go_at_call 100;(first | (with_reducible refine (clsA hL.out hc1 hc2).mono ?_));rintro e w1 ⟨rfl,hA,hK⟩;replace hL:=Lib.hid hA;clear hA;replace hT:=hT.trans (hK.mono hTs);replace hTs:=Nat.le_trans hTs hK.size;replace x0:=hK.cell (lt_cell x0) hne x0;replace x1:=hK.cell (lt_cell x1) hne x1;replace x2:=hK.cell (lt_cell x2) hne x2;replace x3:=hK.cell (lt_cell x3) hne x3;replace x4:=hK.cell (lt_cell x4) hne x4;replace x5:=hK.cell (lt_cell x5) hne x5;replace hbl:=hL.out.lt;clear hK)
   | (go_at_call 30;refine (lin _ _ _ _).mono ?_;rintro e w1 ⟨rfl,rfl⟩))
 all_goals
  go_end0
  refine ⟨rfl,after_eq hL.out hT ?_⟩
  go_tidy
  have e0:((args.length:Int)==0)=decide (args.length=0):=by rw [Bool.eq_iff_iff];simp
  have e1:(n==wrap64 (wrap32 n))=decide (wrap32 n=n):=by rw [wrap64_id (wrap32_ok n),Bool.eq_iff_iff];simp;exact eq_comm
  have e2:(n==0)=decide (n=0):=rfl
  simp only [Rform.ins,Rform.body,Rform.num,Form.rng,e0,e1,e2]
  generalize decide (args.length=0)=A
  simp
  first
   | done
   | ac_rfl
   | (rw [Bool.eq_iff_iff];simp only [Bool.and_eq_true,decide_eq_true_eq];(try simp only [Rform.reg,Form.rng,decide_eq_true_eq]);omega)
   | grind
set_option maxRecDepth 100000 in
theorem ins21 (f:Fi) (m:Me) (a b c n:Int) (args:List Int) (lb:Nat) (ca:Option Addr) (ccap:Nat) (vm vp:Value) (da:Option Addr) (dcap:Nat) (vh:Value) (aa:Option Addr) (acap:Nat) (w:World)
  (h:Lk w lb (.slice ca f.classes.length ccap) vm vp (.slice da m.code.length dcap) vh m true) (hF:Fit f m f.classes.length ccap dcap) (oks:Ok a∧Ok b∧Ok c∧Ok n) (ha:args.length≤acap∧acap≤9223372036854775807) :
  Calls Try.prog 33 #[.pointer (some ⟨lb,0,none⟩),.agg #[.int .i64 21,.int .i64 a,.int .i64 b,.int .i64 c,.int .i64 n,.slice aa args.length acap]] w
   fun e w'=>e=.returned (.tuple #[])∧After w lb (.slice ca f.classes.length ccap) vm vp (.slice da m.code.length dcap) vh m (Rform.ins f m ⟨21,a,b,c,n,args⟩) w':=by
 obtain ⟨hc1,hc2,hd1,hd2,hr⟩:=hF
 obtain ⟨oa,ob,oc,on⟩:=oks
 obtain ⟨ha1,ha2⟩:=ha
 obtain ⟨hr1,hr2⟩:=hr
 have hr:0≤m.regs∧m.regs≤90:=⟨hr1,hr2⟩
 have hlt:=h.lt
 have hne:w.heap.size≠lb:=by omega
 obtain ⟨W,hW⟩:∃ W,Hid (w.alloc (.cells #[.int .i64 21,.int .i64 a,.int .i64 b,.int .i64 c,.int .i64 n,.slice aa args.length acap] 79)=W):=⟨_,rfl⟩
 have hL:=Lib.hid (h.next (Below.alloc (Below.refl _ _) (Nat.le_refl _) (.cells #[.int .i64 21,.int .i64 a,.int .i64 b,.int .i64 c,.int .i64 n,.slice aa args.length acap] 79)) h.lt)
 have hT:Keep w.heap.size lb w (w.alloc (.cells #[.int .i64 21,.int .i64 a,.int .i64 b,.int .i64 c,.int .i64 n,.slice aa args.length acap] 79)):=Keep.alloc (Keep.refl _ _ _) (Nat.le_refl _) _
 have hTs:=hT.size
 have hbl:=hL.out.lt
 have x0:(w.alloc (.cells #[.int .i64 21,.int .i64 a,.int .i64 b,.int .i64 c,.int .i64 n,.slice aa args.length acap] 79)).cell? ⟨w.heap.size,0,none⟩=some (.int .i64 21):=by go_simp
 have x1:(w.alloc (.cells #[.int .i64 21,.int .i64 a,.int .i64 b,.int .i64 c,.int .i64 n,.slice aa args.length acap] 79)).cell? ⟨w.heap.size,1,none⟩=some (.int .i64 a):=by go_simp
 have x2:(w.alloc (.cells #[.int .i64 21,.int .i64 a,.int .i64 b,.int .i64 c,.int .i64 n,.slice aa args.length acap] 79)).cell? ⟨w.heap.size,2,none⟩=some (.int .i64 b):=by go_simp
 have x3:(w.alloc (.cells #[.int .i64 21,.int .i64 a,.int .i64 b,.int .i64 c,.int .i64 n,.slice aa args.length acap] 79)).cell? ⟨w.heap.size,3,none⟩=some (.int .i64 c):=by go_simp
 have x4:(w.alloc (.cells #[.int .i64 21,.int .i64 a,.int .i64 b,.int .i64 c,.int .i64 n,.slice aa args.length acap] 79)).cell? ⟨w.heap.size,4,none⟩=some (.int .i64 n):=by go_simp
 have x5:(w.alloc (.cells #[.int .i64 21,.int .i64 a,.int .i64 b,.int .i64 c,.int .i64 n,.slice aa args.length acap] 79)).cell? ⟨w.heap.size,5,none⟩=some (.slice aa args.length acap):=by go_simp
 clear h hW W
 go_enter Try.func33,Try.ntmps33
 go_wp2_with (first
   | (go_at_call 60;(first | (with_reducible refine (mustA (by first | rfl | simp) hL.out).mono ?_));rintro e w1 ⟨rfl,hA,hK⟩;replace hL:=Lib.hid hA;clear hA;replace hT:=hT.trans (hK.mono hTs);replace hTs:=Nat.le_trans hTs hK.size;replace x0:=hK.cell (lt_cell x0) hne x0;replace x1:=hK.cell (lt_cell x1) hne x1;replace x2:=hK.cell (lt_cell x2) hne x2;replace x3:=hK.cell (lt_cell x3) hne x3;replace x4:=hK.cell (lt_cell x4) hne x4;replace x5:=hK.cell (lt_cell x5) hne x5;replace hbl:=hL.out.lt;clear hK)
   | (go_at_call 61;(first | (with_reducible refine (reg1A (by first | rfl | simp) hL.out (by first | with_reducible assumption | (unfold Ok;omega)) hr).mono ?_) | (with_reducible refine (reg2A (by first | rfl | simp) hL.out (by first | with_reducible assumption | (unfold Ok;omega)) hr).mono ?_) | (with_reducible refine (reg3A (by first | rfl | simp) hL.out (by first | with_reducible assumption | (unfold Ok;omega)) hr).mono ?_));rintro e w1 ⟨rfl,hA,hK⟩;replace hL:=Lib.hid hA;clear hA;replace hT:=hT.trans (hK.mono hTs);replace hTs:=Nat.le_trans hTs hK.size;replace x0:=hK.cell (lt_cell x0) hne x0;replace x1:=hK.cell (lt_cell x1) hne x1;replace x2:=hK.cell (lt_cell x2) hne x2;replace x3:=hK.cell (lt_cell x3) hne x3;replace x4:=hK.cell (lt_cell x4) hne x4;replace x5:=hK.cell (lt_cell x5) hne x5;replace hbl:=hL.out.lt;clear hK)
   | (go_at_call 62;(first | (with_reducible refine (nought1A (by first | rfl | simp) hL.out).mono ?_) | (with_reducible refine (nought2A (by first | rfl | simp) hL.out).mono ?_));rintro e w1 ⟨rfl,hA,hK⟩;replace hL:=Lib.hid hA;clear hA;replace hT:=hT.trans (hK.mono hTs);replace hTs:=Nat.le_trans hTs hK.size;replace x0:=hK.cell (lt_cell x0) hne x0;replace x1:=hK.cell (lt_cell x1) hne x1;replace x2:=hK.cell (lt_cell x2) hne x2;replace x3:=hK.cell (lt_cell x3) hne x3;replace x4:=hK.cell (lt_cell x4) hne x4;replace x5:=hK.cell (lt_cell x5) hne x5;replace hbl:=hL.out.lt;clear hK)
   | (go_at_call 63;(first | (with_reducible refine (atA hL.out hd1 hd2).mono ?_));rintro e w1 ⟨rfl,hA,hK⟩;replace hL:=Lib.hid hA;clear hA;replace hT:=hT.trans (hK.mono hTs);replace hTs:=Nat.le_trans hTs hK.size;replace x0:=hK.cell (lt_cell x0) hne x0;replace x1:=hK.cell (lt_cell x1) hne x1;replace x2:=hK.cell (lt_cell x2) hne x2;replace x3:=hK.cell (lt_cell x3) hne x3;replace x4:=hK.cell (lt_cell x4) hne x4;replace x5:=hK.cell (lt_cell x5) hne x5;replace hbl:=hL.out.lt;clear hK)
   | (go_at_call 100;(first | (with_reducible refine (clsA hL.out hc1 hc2).mono ?_));rintro e w1 ⟨rfl,hA,hK⟩;replace hL:=Lib.hid hA;clear hA;replace hT:=hT.trans (hK.mono hTs);replace hTs:=Nat.le_trans hTs hK.size;replace x0:=hK.cell (lt_cell x0) hne x0;replace x1:=hK.cell (lt_cell x1) hne x1;replace x2:=hK.cell (lt_cell x2) hne x2;replace x3:=hK.cell (lt_cell x3) hne x3;replace x4:=hK.cell (lt_cell x4) hne x4;replace x5:=hK.cell (lt_cell x5) hne x5;replace hbl:=hL.out.lt;clear hK)
   | (go_at_call 30;refine (lin _ _ _ _).mono ?_;rintro e w1 ⟨rfl,rfl⟩))
 all_goals
  go_end0
  refine ⟨rfl,after_eq hL.out hT ?_⟩
  go_tidy
  have e0:((args.length:Int)==0)=decide (args.length=0):=by rw [Bool.eq_iff_iff];simp
  have e1:(n==wrap64 (wrap32 n))=decide (wrap32 n=n):=by rw [wrap64_id (wrap32_ok n),Bool.eq_iff_iff];simp;exact eq_comm
  have e2:(n==0)=decide (n=0):=rfl
  simp only [Rform.ins,Rform.body,Rform.num,Form.rng,e0,e1,e2]
  generalize decide (args.length=0)=A
  simp
  first
   | done
   | ac_rfl
   | (rw [Bool.eq_iff_iff];simp only [Bool.and_eq_true,decide_eq_true_eq];(try simp only [Rform.reg,Form.rng,decide_eq_true_eq]);omega)
   | grind
set_option maxRecDepth 100000 in
theorem ins22 (f:Fi) (m:Me) (a b c n:Int) (args:List Int) (lb:Nat) (ca:Option Addr) (ccap:Nat) (vm vp:Value) (da:Option Addr) (dcap:Nat) (vh:Value) (aa:Option Addr) (acap:Nat) (w:World)
  (h:Lk w lb (.slice ca f.classes.length ccap) vm vp (.slice da m.code.length dcap) vh m true) (hF:Fit f m f.classes.length ccap dcap) (oks:Ok a∧Ok b∧Ok c∧Ok n) (ha:args.length≤acap∧acap≤9223372036854775807) :
  Calls Try.prog 33 #[.pointer (some ⟨lb,0,none⟩),.agg #[.int .i64 22,.int .i64 a,.int .i64 b,.int .i64 c,.int .i64 n,.slice aa args.length acap]] w
   fun e w'=>e=.returned (.tuple #[])∧After w lb (.slice ca f.classes.length ccap) vm vp (.slice da m.code.length dcap) vh m (Rform.ins f m ⟨22,a,b,c,n,args⟩) w':=by
 obtain ⟨hc1,hc2,hd1,hd2,hr⟩:=hF
 obtain ⟨oa,ob,oc,on⟩:=oks
 obtain ⟨ha1,ha2⟩:=ha
 obtain ⟨hr1,hr2⟩:=hr
 have hr:0≤m.regs∧m.regs≤90:=⟨hr1,hr2⟩
 have hlt:=h.lt
 have hne:w.heap.size≠lb:=by omega
 obtain ⟨W,hW⟩:∃ W,Hid (w.alloc (.cells #[.int .i64 22,.int .i64 a,.int .i64 b,.int .i64 c,.int .i64 n,.slice aa args.length acap] 79)=W):=⟨_,rfl⟩
 have hL:=Lib.hid (h.next (Below.alloc (Below.refl _ _) (Nat.le_refl _) (.cells #[.int .i64 22,.int .i64 a,.int .i64 b,.int .i64 c,.int .i64 n,.slice aa args.length acap] 79)) h.lt)
 have hT:Keep w.heap.size lb w (w.alloc (.cells #[.int .i64 22,.int .i64 a,.int .i64 b,.int .i64 c,.int .i64 n,.slice aa args.length acap] 79)):=Keep.alloc (Keep.refl _ _ _) (Nat.le_refl _) _
 have hTs:=hT.size
 have hbl:=hL.out.lt
 have x0:(w.alloc (.cells #[.int .i64 22,.int .i64 a,.int .i64 b,.int .i64 c,.int .i64 n,.slice aa args.length acap] 79)).cell? ⟨w.heap.size,0,none⟩=some (.int .i64 22):=by go_simp
 have x1:(w.alloc (.cells #[.int .i64 22,.int .i64 a,.int .i64 b,.int .i64 c,.int .i64 n,.slice aa args.length acap] 79)).cell? ⟨w.heap.size,1,none⟩=some (.int .i64 a):=by go_simp
 have x2:(w.alloc (.cells #[.int .i64 22,.int .i64 a,.int .i64 b,.int .i64 c,.int .i64 n,.slice aa args.length acap] 79)).cell? ⟨w.heap.size,2,none⟩=some (.int .i64 b):=by go_simp
 have x3:(w.alloc (.cells #[.int .i64 22,.int .i64 a,.int .i64 b,.int .i64 c,.int .i64 n,.slice aa args.length acap] 79)).cell? ⟨w.heap.size,3,none⟩=some (.int .i64 c):=by go_simp
 have x4:(w.alloc (.cells #[.int .i64 22,.int .i64 a,.int .i64 b,.int .i64 c,.int .i64 n,.slice aa args.length acap] 79)).cell? ⟨w.heap.size,4,none⟩=some (.int .i64 n):=by go_simp
 have x5:(w.alloc (.cells #[.int .i64 22,.int .i64 a,.int .i64 b,.int .i64 c,.int .i64 n,.slice aa args.length acap] 79)).cell? ⟨w.heap.size,5,none⟩=some (.slice aa args.length acap):=by go_simp
 clear h hW W
 go_enter Try.func33,Try.ntmps33
 go_wp2_with (first
   | (go_at_call 60;(first | (with_reducible refine (mustA (by first | rfl | simp) hL.out).mono ?_));rintro e w1 ⟨rfl,hA,hK⟩;replace hL:=Lib.hid hA;clear hA;replace hT:=hT.trans (hK.mono hTs);replace hTs:=Nat.le_trans hTs hK.size;replace x0:=hK.cell (lt_cell x0) hne x0;replace x1:=hK.cell (lt_cell x1) hne x1;replace x2:=hK.cell (lt_cell x2) hne x2;replace x3:=hK.cell (lt_cell x3) hne x3;replace x4:=hK.cell (lt_cell x4) hne x4;replace x5:=hK.cell (lt_cell x5) hne x5;replace hbl:=hL.out.lt;clear hK)
   | (go_at_call 61;(first | (with_reducible refine (reg1A (by first | rfl | simp) hL.out (by first | with_reducible assumption | (unfold Ok;omega)) hr).mono ?_) | (with_reducible refine (reg2A (by first | rfl | simp) hL.out (by first | with_reducible assumption | (unfold Ok;omega)) hr).mono ?_) | (with_reducible refine (reg3A (by first | rfl | simp) hL.out (by first | with_reducible assumption | (unfold Ok;omega)) hr).mono ?_));rintro e w1 ⟨rfl,hA,hK⟩;replace hL:=Lib.hid hA;clear hA;replace hT:=hT.trans (hK.mono hTs);replace hTs:=Nat.le_trans hTs hK.size;replace x0:=hK.cell (lt_cell x0) hne x0;replace x1:=hK.cell (lt_cell x1) hne x1;replace x2:=hK.cell (lt_cell x2) hne x2;replace x3:=hK.cell (lt_cell x3) hne x3;replace x4:=hK.cell (lt_cell x4) hne x4;replace x5:=hK.cell (lt_cell x5) hne x5;replace hbl:=hL.out.lt;clear hK)
   | (go_at_call 62;(first | (with_reducible refine (nought1A (by first | rfl | simp) hL.out).mono ?_) | (with_reducible refine (nought2A (by first | rfl | simp) hL.out).mono ?_));rintro e w1 ⟨rfl,hA,hK⟩;replace hL:=Lib.hid hA;clear hA;replace hT:=hT.trans (hK.mono hTs);replace hTs:=Nat.le_trans hTs hK.size;replace x0:=hK.cell (lt_cell x0) hne x0;replace x1:=hK.cell (lt_cell x1) hne x1;replace x2:=hK.cell (lt_cell x2) hne x2;replace x3:=hK.cell (lt_cell x3) hne x3;replace x4:=hK.cell (lt_cell x4) hne x4;replace x5:=hK.cell (lt_cell x5) hne x5;replace hbl:=hL.out.lt;clear hK)
   | (go_at_call 63;(first | (with_reducible refine (atA hL.out hd1 hd2).mono ?_));rintro e w1 ⟨rfl,hA,hK⟩;replace hL:=Lib.hid hA;clear hA;replace hT:=hT.trans (hK.mono hTs);replace hTs:=Nat.le_trans hTs hK.size;replace x0:=hK.cell (lt_cell x0) hne x0;replace x1:=hK.cell (lt_cell x1) hne x1;replace x2:=hK.cell (lt_cell x2) hne x2;replace x3:=hK.cell (lt_cell x3) hne x3;replace x4:=hK.cell (lt_cell x4) hne x4;replace x5:=hK.cell (lt_cell x5) hne x5;replace hbl:=hL.out.lt;clear hK)
   | (go_at_call 100;(first | (with_reducible refine (clsA hL.out hc1 hc2).mono ?_));rintro e w1 ⟨rfl,hA,hK⟩;replace hL:=Lib.hid hA;clear hA;replace hT:=hT.trans (hK.mono hTs);replace hTs:=Nat.le_trans hTs hK.size;replace x0:=hK.cell (lt_cell x0) hne x0;replace x1:=hK.cell (lt_cell x1) hne x1;replace x2:=hK.cell (lt_cell x2) hne x2;replace x3:=hK.cell (lt_cell x3) hne x3;replace x4:=hK.cell (lt_cell x4) hne x4;replace x5:=hK.cell (lt_cell x5) hne x5;replace hbl:=hL.out.lt;clear hK)
   | (go_at_call 30;refine (lin _ _ _ _).mono ?_;rintro e w1 ⟨rfl,rfl⟩))
 all_goals
  go_end0
  refine ⟨rfl,after_eq hL.out hT ?_⟩
  go_tidy
  have e0:((args.length:Int)==0)=decide (args.length=0):=by rw [Bool.eq_iff_iff];simp
  have e1:(n==wrap64 (wrap32 n))=decide (wrap32 n=n):=by rw [wrap64_id (wrap32_ok n),Bool.eq_iff_iff];simp;exact eq_comm
  have e2:(n==0)=decide (n=0):=rfl
  simp only [Rform.ins,Rform.body,Rform.num,Form.rng,e0,e1,e2]
  generalize decide (args.length=0)=A
  simp
  first
   | done
   | ac_rfl
   | (rw [Bool.eq_iff_iff];simp only [Bool.and_eq_true,decide_eq_true_eq];(try simp only [Rform.reg,Form.rng,decide_eq_true_eq]);omega)
   | grind
end Look
end Go.Proofs.Ytncmhenfgbcihac
