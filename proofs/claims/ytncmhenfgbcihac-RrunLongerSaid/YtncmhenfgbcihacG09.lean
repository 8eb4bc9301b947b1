/- Parts of the proof: LookM, LookN, LookO. -/
import Derived.Test.YtncmhenfgbcihacG08
set_option linter.unusedSimpArgs false
set_option linter.unusedVariables false
set_option maxHeartbeats 8000000
namespace Go.Proofs.Ytncmhenfgbcihac
open Go.RowKit
namespace Look
open Num Rd D HierW FormW
def Got (w:World) (lb:Nat) (vc vm vp vcd vh:Value) (m:Me) (X:Bool) (e:Ending) (w':World):Prop :=
 ∃ (v:Int) (q:Bool),e=.returned (.int .i64 v)∧After w lb vc vm vp vcd vh m q w'∧(q && decide (v=0))=X
theorem got_eq {w w':World}{lb:Nat}{vc vm vp vcd vh:Value}{m:Me}{q X:Bool}{v:Int}(h:Lk w' lb vc vm vp vcd vh m q) (hT:Keep w.heap.size lb w w') (e:(q && decide (v=0))=X):Got w lb vc vm vp vcd vh m X (.returned (.int .i64 v)) w':=⟨v,q,rfl,⟨h,hT⟩,e⟩
def moreX (f:Fi) (m:Me) (ok:Bool) (i:Ins):Bool:=ok && (Rform.body f.classes f.methods m.code.length m.regs m.ret.kind i && Rform.num i)
set_option maxRecDepth 100000 in
theorem more13 (f:Fi) (m:Me) (a b c n:Int) (args:List Int) (ok:Bool) (lb:Nat) (ca:Option Addr) (ccap:Nat) (vm vp:Value) (da:Option Addr) (dcap:Nat) (vh:Value) (aa:Option Addr) (acap:Nat) (w:World)
  (h:Lk w lb (.slice ca f.classes.length ccap) vm vp (.slice da m.code.length dcap) vh m ok) (hF:Fit f m f.classes.length ccap dcap) (oks:Ok a∧Ok b∧Ok c∧Ok n) (ha:args.length≤acap∧acap≤9223372036854775807) :
  Calls Try.prog 64 #[.pointer (some ⟨lb,0,none⟩),.agg #[.int .i64 13,.int .i64 a,.int .i64 b,.int .i64 c,.int .i64 n,.slice aa args.length acap]] w
   (Got w lb (.slice ca f.classes.length ccap) vm vp (.slice da m.code.length dcap) vh m (moreX f m ok ⟨13,a,b,c,n,args⟩)):=by
 obtain ⟨hc1,hc2,hd1,hd2,hr⟩:=hF
 obtain ⟨oa,ob,oc,on⟩:=oks
 obtain ⟨ha1,ha2⟩:=ha
 obtain ⟨hr1,hr2⟩:=hr
 have hr:0≤m.regs∧m.regs≤90:=⟨hr1,hr2⟩
 have hlt:=h.lt
 have hne:w.heap.size≠lb:=by omega
 have hL:=Lib.hid (h.next (Below.alloc (Below.refl _ _) (Nat.le_refl _) (.cells #[.int .i64 13,.int .i64 a,.int .i64 b,.int .i64 c,.int .i64 n,.slice aa args.length acap] 79)) h.lt)
 have hT:Keep w.heap.size lb w (w.alloc (.cells #[.int .i64 13,.int .i64 a,.int .i64 b,.int .i64 c,.int .i64 n,.slice aa args.length acap] 79)):=Keep.alloc (Keep.refl _ _ _) (Nat.le_refl _) _
 have hTs:=hT.size
 have hbl:=hL.out.lt
 have x0:(w.alloc (.cells #[.int .i64 13,.int .i64 a,.int .i64 b,.int .i64 c,.int .i64 n,.slice aa args.length acap] 79)).cell? ⟨w.heap.size,0,none⟩=some (.int .i64 13):=by go_simp
 have x1:(w.alloc (.cells #[.int .i64 13,.int .i64 a,.int .i64 b,.int .i64 c,.int .i64 n,.slice aa args.length acap] 79)).cell? ⟨w.heap.size,1,none⟩=some (.int .i64 a):=by go_simp
 have x2:(w.alloc (.cells #[.int .i64 13,.int .i64 a,.int .i64 b,.int .i64 c,.int .i64 n,.slice aa args.length acap] 79)).cell? ⟨w.heap.size,2,none⟩=some (.int .i64 b):=by go_simp
 have x3:(w.alloc (.cells #[.int .i64 13,.int .i64 a,.int .i64 b,.int .i64 c,.int .i64 n,.slice aa args.length acap] 79)).cell? ⟨w.heap.size,3,none⟩=some (.int .i64 c):=by go_simp
 have x4:(w.alloc (.cells #[.int .i64 13,.int .i64 a,.int .i64 b,.int .i64 c,.int .i64 n,.slice aa args.length acap] 79)).cell? ⟨w.heap.size,4,none⟩=some (.int .i64 n):=by go_simp
 have x5:(w.alloc (.cells #[.int .i64 13,.int .i64 a,.int .i64 b,.int .i64 c,.int .i64 n,.slice aa args.length acap] 79)).cell? ⟨w.heap.size,5,none⟩=some (.slice aa args.length acap):=by go_simp
 clear h
 go_enter Try.func64,Try.ntmps64
 go_wp2_with (first
   | (go_at_call 60;(first | (with_reducible refine (mustA (by first | rfl | simp) hL.out).mono ?_));rintro e w1 ⟨rfl,hA,hK⟩;replace hL:=Lib.hid hA;clear hA;replace hT:=hT.trans (hK.mono hTs);replace hTs:=Nat.le_trans hTs hK.size;replace x0:=hK.cell (lt_cell x0) hne x0;replace x1:=hK.cell (lt_cell x1) hne x1;replace x2:=hK.cell (lt_cell x2) hne x2;replace x3:=hK.cell (lt_cell x3) hne x3;replace x4:=hK.cell (lt_cell x4) hne x4;replace x5:=hK.cell (lt_cell x5) hne x5;replace hbl:=hL.out.lt;clear hK)
   | (go_at_call 61;(first | (with_reducible refine (reg1A (by first | rfl | simp) hL.out (by first | with_reducible assumption | (unfold Ok;omega)) hr).mono ?_) | (with_reducible refine (reg2A (by first | rfl | simp) hL.out (by first | with_reducible assumption | (unfold Ok;omega)) hr).mono ?_) | (with_reducible refine (reg3A (by first | rfl | simp) hL.out (by first | with_reducible assumption | (unfold Ok;omega)) hr).mono ?_));rintro e w1 ⟨rfl,hA,hK⟩;replace hL:=Lib.hid hA;clear hA;replace hT:=hT.trans (hK.mono hTs);replace hTs:=Nat.le_trans hTs hK.size;replace x0:=hK.cell (lt_cell x0) hne x0;replace x1:=hK.cell (lt_cell x1) hne x1;replace x2:=hK.cell (lt_cell x2) hne x2;replace x3:=hK.cell (lt_cell x3) hne x3;replace x4:=hK.cell (lt_cell x4) hne x4;replace x5:=hK.cell (lt_cell x5) hne x5;replace hbl:=hL.out.lt;clear hK)
   | (go_at_call 62;(first | (with_reducible refine (nought1A (by first | rfl | simp) hL.out).mono ?_) | (with_reducible refine (nought2A (by first | rfl | simp) hL.out).mono ?_));rintro e w1 ⟨rfl,hA,hK⟩;replace hL:=Lib.hid hA;clear hA;replace hT:=hT.trans (hK.mono hTs);replace hTs:=Nat.le_trans hTs hK.size;replace x0:=hK.cell (lt_cell x0) hne x0;replace x1:=hK.cell (lt_cell x1) hne x1;replace x2:=hK.cell (lt_cell x2) hne x2;replace x3:=hK.cell (lt_cell x3) hne x3;replace x4:=hK.cell (lt_cell x4) hne x4;replace x5:=hK.cell (lt_cell x5) hne x5;replace hbl:=hL.out.lt;clear hK)
   | (go_at_call 63;(first | (with_reducible refine (atA hL.out hd1 hd2).mono ?_));rintro e w1 ⟨rfl,hA,hK⟩;replace hL:=Lib.hid hA;clear hA;replace hT:=hT.trans (hK.mono hTs);replace hTs:=Nat.le_trans hTs hK.size;replace x0:=hK.cell (lt_cell x0) hne x0;replace x1:=hK.cell (lt_cell x1) hne x1;replace x2:=hK.cell (lt_cell x2) hne x2;replace x3:=hK.cell (lt_cell x3) hne x3;replace x4:=hK.cell (lt_cell x4) hne x4;replace x5:=hK.cell (lt_cell x5) hne x5;replace hbl:=hL.out.lt;clear hK)
   | (go_at_call 100;(first | (with_reducible refine (clsA hL.out hc1 hc2).mono ?_));rintro e w1 ⟨rfl,hA,hK⟩;replace hL:=Lib.hid hA;clear hA;replace hT:=hT.trans (hK.mono hTs);replace hTs:=Nat.le_trans hTs hK.size;replace x0:=hK.cell (lt_cell x0) hne x0;replace x1:=hK.cell (lt_cell x1) hne x1;replace x2:=hK.cell (lt_cell x2) hne x2;replace x3:=hK.cell (lt_cell x3) hne x3;replace x4:=hK.cell (lt_cell x4) hne x4;replace x5:=hK.cell (lt_cell x5) hne x5;replace hbl:=hL.out.lt;clear hK)
   | (go_at_call 30;refine (lin _ _ _ _).mono ?_;rintro e w1 ⟨rfl,rfl⟩))
 all_goals
  go_ret
  refine got_eq hL.out hT ?_
  go_tidy
  simp only [moreX,Rform.body,Rform.num,Form.rng]
  simp
  first
   | done
   | ac_rfl
   | (rw [Bool.eq_iff_iff];simp only [Bool.and_eq_true,decide_eq_true_eq];(try simp only [Rform.reg,Form.rng,decide_eq_true_eq]);omega)
   | grind
set_option maxRecDepth 100000 in
theorem more16 (f:Fi) (m:Me) (a b c n:Int) (args:List Int) (ok:Bool) (lb:Nat) (ca:Option Addr) (ccap:Nat) (vm vp:Value) (da:Option Addr) (dcap:Nat) (vh:Value) (aa:Option Addr) (acap:Nat) (w:World)
  (h:Lk w lb (.slice ca f.classes.length ccap) vm vp (.slice da m.code.length dcap) vh m ok) (hF:Fit f m f.classes.length ccap dcap) (oks:Ok a∧Ok b∧Ok c∧Ok n) (ha:args.length≤acap∧acap≤9223372036854775807) :
  Calls Try.prog 64 #[.pointer (some ⟨lb,0,none⟩),.agg #[.int .i64 16,.int .i64 a,.int .i64 b,.int .i64 c,.int .i64 n,.slice aa args.length acap]] w
   (Got w lb (.slice ca f.classes.length ccap) vm vp (.slice da m.code.length dcap) vh m (moreX f m ok ⟨16,a,b,c,n,args⟩)):=by
 obtain ⟨hc1,hc2,hd1,hd2,hr⟩:=hF
 obtain ⟨oa,ob,oc,on⟩:=oks
 obtain ⟨ha1,ha2⟩:=ha
 obtain ⟨hr1,hr2⟩:=hr
 have hr:0≤m.regs∧m.regs≤90:=⟨hr1,hr2⟩
 have hlt:=h.lt
 have hne:w.heap.size≠lb:=by omega
 have hL:=Lib.hid (h.next (Below.alloc (Below.refl _ _) (Nat.le_refl _) (.cells #[.int .i64 16,.int .i64 a,.int .i64 b,.int .i64 c,.int .i64 n,.slice aa args.length acap] 79)) h.lt)
 have hT:Keep w.heap.size lb w (w.alloc (.cells #[.int .i64 16,.int .i64 a,.int .i64 b,.int .i64 c,.int .i64 n,.slice aa args.length acap] 79)):=Keep.alloc (Keep.refl _ _ _) (Nat.le_refl _) _
 have hTs:=hT.size
 have hbl:=hL.out.lt
 have x0:(w.alloc (.cells #[.int .i64 16,.int .i64 a,.int .i64 b,.int .i64 c,.int .i64 n,.slice aa args.length acap] 79)).cell? ⟨w.heap.size,0,none⟩=some (.int .i64 16):=by go_simp
 have x1:(w.alloc (.cells #[.int .i64 16,.int .i64 a,.int .i64 b,.int .i64 c,.int .i64 n,.slice aa args.length acap] 79)).cell? ⟨w.heap.size,1,none⟩=some (.int .i64 a):=by go_simp
 have x2:(w.alloc (.cells #[.int .i64 16,.int .i64 a,.int .i64 b,.int .i64 c,.int .i64 n,.slice aa args.length acap] 79)).cell? ⟨w.heap.size,2,none⟩=some (.int .i64 b):=by go_simp
 have x3:(w.alloc (.cells #[.int .i64 16,.int .i64 a,.int .i64 b,.int .i64 c,.int .i64 n,.slice aa args.length acap] 79)).cell? ⟨w.heap.size,3,none⟩=some (.int .i64 c):=by go_simp
 have x4:(w.alloc (.cells #[.int .i64 16,.int .i64 a,.int .i64 b,.int .i64 c,.int .i64 n,.slice aa args.length acap] 79)).cell? ⟨w.heap.size,4,none⟩=some (.int .i64 n):=by go_simp
 have x5:(w.alloc (.cells #[.int .i64 16,.int .i64 a,.int .i64 b,.int .i64 c,.int .i64 n,.slice aa args.length acap] 79)).cell? ⟨w.heap.size,5,none⟩=some (.slice aa args.length acap):=by go_simp
 clear h
 go_enter Try.func64,Try.ntmps64
 go_wp2_with (first
   | (go_at_call 60;(first | (with_reducible refine (mustA (by first | rfl | simp) hL.out).mono ?_));rintro e w1 ⟨rfl,hA,hK⟩;replace hL:=Lib.hid hA;clear hA;replace hT:=hT.trans (hK.mono hTs);replace hTs:=Nat.le_trans hTs hK.size;replace x0:=hK.cell (lt_cell x0) hne x0;replace x1:=hK.cell (lt_cell x1) hne x1;replace x2:=hK.cell (lt_cell x2) hne x2;replace x3:=hK.cell (lt_cell x3) hne x3;replace x4:=hK.cell (lt_cell x4) hne x4;replace x5:=hK.cell (lt_cell x5) hne x5;replace hbl:=hL.out.lt;clear hK)
   | (go_at_call 61;(first | (with_reducible refine (reg1A (by first | rfl | simp) hL.out (by first | with_reducible assumption | (unfold Ok;omega)) hr).mono ?_) | (with_reducible refine (reg2A (by first | rfl | simp) hL.out (by first | with_reducible assumption | (unfold Ok;omega)) hr).mono ?_) | (with_reducible refine (reg3A (by first | rfl | simp) hL.out (by first | with_reducible assumption | (unfold Ok;omega)) hr).mono ?_));rintro e w1 ⟨rfl,hA,hK⟩;replace hL:=Lib.hid hA;clear hA;replace hT:=hT.trans (hK.mono hTs);replace hTs:=Nat.le_trans hTs hK.size;replace x0:=hK.cell (lt_cell x0) hne x0;replace x1:=hK.cell (lt_cell x1) hne x1;replace x2:=hK.cell (lt_cell x2) hne x2;replace x3:=hK.cell (lt_cell x3) hne x3;replace x4:=hK.cell (lt_cell x4) hne x4;replace x5:=hK.cell (lt_cell x5) hne x5;replace hbl:=hL.out.lt;clear hK)
   | (go_at_call 62;(first | (with_reducible refine (nought1A (by first | rfl | simp) hL.out).mono ?_) | (with_reducible refine (nought2A (by first | rfl | simp) hL.out).mono ?_));rintro e w1 ⟨rfl,hA,hK⟩;replace hL:=Lib.hid hA;clear hA;replace hT:=hT.trans (hK.mono hTs);replace hTs:=Nat.le_trans hTs hK.size;replace x0:=hK.cell (lt_cell x0) hne x0;replace x1:=hK.cell (lt_cell x1) hne x1;replace x2:=hK.cell (lt_cell x2) hne x2;replace x3:=hK.cell (lt_cell x3) hne x3;replace x4:=hK.cell (lt_cell x4) hne x4;replace x5:=hK.cell (lt_cell x5) hne x5;replace hbl:=hL.out.lt;clear hK)
   | (go_at_call 63;(first | (with_reducible refine (atA hL.out hd1 hd2).mono ?_));rintro e w1 ⟨rfl,hA,hK⟩;replace hL:=Lib.hid hA;clear hA;replace hT:=hT.trans (hK.mono hTs);replace hTs:=Nat.le_trans hTs hK.size;replace x0:=hK.cell (lt_cell x0) hne x0;replace x1:=hK.cell (lt_cell x1) hne x1;replace x2:=hK.cell (lt_cell x2) hne x2;replace x3:=hK.cell (lt_cell x3) hne x3;replace x4:=hK.cell (lt_cell x4) hne x4;replace x5:=hK.cell (lt_cell x5) hne x5;replace hbl:=hL.out.lt;clear hK)
   | (go_at_call 100;(first | (with_reducible refine (clsA hL.out hc1 hc2).mono ?_));rintro e w1 ⟨rfl,hA,hK⟩;replace hL:=Lib.hid hA;clear hA;replace hT:=hT.trans (hK.mono hTs);replace hTs:=Nat.le_trans hTs hK.size;replace x0:=hK.cell (lt_cell x0) hne x0;replace x1:=hK.cell (lt_cell x1) hne x1;replace x2:=hK.cell (lt_cell x2) hne x2;replace x3:=hK.cell (lt_cell x3) hne x3;replace x4:=hK.cell (lt_cell x4) hne x4;replace x5:=hK.cell (lt_cell x5) hne x5;replace hbl:=hL.out.lt;clear hK)
   | (go_at_call 30;refine (lin _ _ _ _).mono ?_;rintro e w1 ⟨rfl,rfl⟩))
 all_goals
  go_ret
  refine got_eq hL.out hT ?_
  go_tidy
  simp only [moreX,Rform.body,Rform.num,Form.rng]
  simp
  first
   | done
   | ac_rfl
   | (rw [Bool.eq_iff_iff];simp only [Bool.and_eq_true,decide_eq_true_eq];(try simp only [Rform.reg,Form.rng,decide_eq_true_eq]);omega)
   | grind
set_option maxRecDepth 100000 in
theorem more17 (f:Fi) (m:Me) (a b c n:Int) (args:List Int) (ok:Bool) (lb:Nat) (ca:Option Addr) (ccap:Nat) (vm vp:Value) (da:Option Addr) (dcap:Nat) (vh:Value) (aa:Option Addr) (acap:Nat) (w:World)
  (h:Lk w lb (.slice ca f.classes.length ccap) vm vp (.slice da m.code.length dcap) vh m ok) (hF:Fit f m f.classes.length ccap dcap) (oks:Ok a∧Ok b∧Ok c∧Ok n) (ha:args.length≤acap∧acap≤9223372036854775807) :
  Calls Try.prog 64 #[.pointer (some ⟨lb,0,none⟩),.agg #[.int .i64 17,.int .i64 a,.int .i64 b,.int .i64 c,.int .i64 n,.slice aa args.length acap]] w
   (Got w lb (.slice ca f.classes.length ccap) vm vp (.slice da m.code.length dcap) vh m (moreX f m ok ⟨17,a,b,c,n,args⟩)):=by
 obtain ⟨hc1,hc2,hd1,hd2,hr⟩:=hF
 obtain ⟨oa,ob,oc,on⟩:=oks
 obtain ⟨ha1,ha2⟩:=ha
 obtain ⟨hr1,hr2⟩:=hr
 have hr:0≤m.regs∧m.regs≤90:=⟨hr1,hr2⟩
 have hlt:=h.lt
 have hne:w.heap.size≠lb:=by omega
 have hL:=Lib.hid (h.next (Below.alloc (Below.refl _ _) (Nat.le_refl _) (.cells #[.int .i64 17,.int .i64 a,.int .i64 b,.int .i64 c,.int .i64 n,.slice aa args.length acap] 79)) h.lt)
 have hT:Keep w.heap.size lb w (w.alloc (.cells #[.int .i64 17,.int .i64 a,.int .i64 b,.int .i64 c,.int .i64 n,.slice aa args.length acap] 79)):=Keep.alloc (Keep.refl _ _ _) (Nat.le_refl _) _
 have hTs:=hT.size
 have hbl:=hL.out.lt
 have x0:(w.alloc (.cells #[.int .i64 17,.int .i64 a,.int .i64 b,.int .i64 c,.int .i64 n,.slice aa args.length acap] 79)).cell? ⟨w.heap.size,0,none⟩=some (.int .i64 17):=by go_simp
 have x1:(w.alloc (.cells #[.int .i64 17,.int .i64 a,.int .i64 b,.int .i64 c,.int .i64 n,.slice aa args.length acap] 79)).cell? ⟨w.heap.size,1,none⟩=some (.int .i64 a):=by go_simp
 have x2:(w.alloc (.cells #[.int .i64 17,.int .i64 a,.int .i64 b,.int .i64 c,.int .i64 n,.slice aa args.length acap] 79)).cell? ⟨w.heap.size,2,none⟩=some (.int .i64 b):=by go_simp
 have x3:(w.alloc (.cells #[.int .i64 17,.int .i64 a,.int .i64 b,.int .i64 c,.int .i64 n,.slice aa args.length acap] 79)).cell? ⟨w.heap.size,3,none⟩=some (.int .i64 c):=by go_simp
 have x4:(w.alloc (.cells #[.int .i64 17,.int .i64 a,.int .i64 b,.int .i64 c,.int .i64 n,.slice aa args.length acap] 79)).cell? ⟨w.heap.size,4,none⟩=some (.int .i64 n):=by go_simp
 have x5:(w.alloc (.cells #[.int .i64 17,.int .i64 a,.int .i64 b,.int .i64 c,.int .i64 n,.slice aa args.length acap] 79)).cell? ⟨w.heap.size,5,none⟩=some (.slice aa args.length acap):=by go_simp
 clear h
 go_enter Try.func64,Try.ntmps64
 go_wp2_with (first
   | (go_at_call 60;(first | (with_reducible refine (mustA (by first | rfl | simp) hL.out).mono ?_));rintro e w1 ⟨rfl,hA,hK⟩;replace hL:=Lib.hid hA;clear hA;replace hT:=hT.trans (hK.mono hTs);replace hTs:=Nat.le_trans hTs hK.size;replace x0:=hK.cell (lt_cell x0) hne x0;replace x1:=hK.cell (lt_cell x1) hne x1;replace x2:=hK.cell (lt_cell x2) hne x2;replace x3:=hK.cell (lt_cell x3) hne x3;replace x4:=hK.cell (lt_cell x4) hne x4;replace x5:=hK.cell (lt_cell x5) hne x5;replace hbl:=hL.out.lt;clear hK)
   | (go_at_call 61;(first | (with_reducible refine (reg1A (by first | rfl | simp) hL.out (by first | with_reducible assumption | (unfold Ok;omega)) hr).mono ?_) | (with_reducible refine (reg2A (by first | rfl | simp) hL.out (by first | with_reducible assumption | (unfold Ok;omega)) hr).mono ?_) | (with_reducible refine (reg3A (by first | rfl | simp) hL.out (by first | with_reducible assumption | (unfold Ok;omega)) hr).mono ?_));rintro e w1 ⟨rfl,hA,hK⟩;replace hL:=Lib.hid hA;clear hA;replace hT:=hT.trans (hK.mono hTs);replace hTs:=Nat.le_trans hTs hK.size;replace x0:=hK.cell (lt_cell x0) hne x0;replace x1:=hK.cell (lt_cell x1) hne x1;replace x2:=hK.cell (lt_cell x2) hne x2;replace x3:=hK.cell (lt_cell x3) hne x3;replace x4:=hK.cell (lt_cell x4) hne x4;replace x5:=hK.cell (lt_cell x5) hne x5;replace hbl:=hL.out.lt;clear hK)
   | (go_at_call 62;(first | (with_reducible refine (nought1A (by first | rfl | simp) hL.out).mono ?_) | (with_reducible refine (nought2A (by first | rfl | simp) hL.out).mono ?_));rintro e w1 ⟨rfl,hA,hK⟩;replace hL:=Lib.hid hA;clear hA;replace hT:=hT.trans (hK.mono hTs);replace hTs:=Nat.le_trans hTs hK.size;replace x0:=hK.cell (lt_cell x0) hne x0;replace x1:=hK.cell (lt_cell x1) hne x1;replace x2:=hK.cell (lt_cell x2) hne x2;replace x3:=hK.cell (lt_cell x3) hne x3;replace x4:=hK.cell (lt_cell x4) hne x4;replace x5:=hK.cell (lt_cell x5) hne x5;replace hbl:=hL.out.lt;clear hK)
   | (go_at_call 63;(first | (with_reducible refine (atA hL.out hd1 hd2).mono ?_));rintro e w1 ⟨rfl,hA,hK⟩;replace hL:=Lib.hid hA;clear hA;replace hT:=hT.trans (hK.mono hTs);replace hTs:=Nat.le_trans hTs hK.size;replace x0:=hK.cell (lt_cell x0) hne x0;replace x1:=hK.cell (lt_cell x1) hne x1;replace x2:=hK.cell (lt_cell x2) hne x2;replace x3:=hK.cell (lt_cell x3) hne x3;replace x4:=hK.cell (lt_cell x4) hne x4;replace x5:=hK.cell (lt_cell x5) hne x5;replace hbl:=hL.out.lt;clear hK)
   | (go_at_call 100;(first | (with_reducible refine (clsA hL.out hc1 hc2).mono ?_));rintro e w1 ⟨rfl,hA,hK⟩;replace hL:=Lib.hid hA;clear hA;replace hT:=hT.trans (hK.mono hTs);replace hTs:=Nat.le_trans hTs hK.size;replace x0:=hK.cell (lt_cell x0) hne x0;replace x1:=hK.cell (lt_cell x1) hne x1;replace x2:=hK.cell (lt_cell x2) hne x2;replace x3:=hK.cell (lt_cell x3) hne x3;replace x4:=hK.cell (lt_cell x4) hne x4;replace x5:=hK.cell (lt_cell x5) hne x5;replace hbl:=hL.out.lt;clear hK)
   | (go_at_call 30;refine (lin _ _ _ _).mono ?_;rintro e w1 ⟨rfl,rfl⟩))
 all_goals
  go_ret
  refine got_eq hL.out hT ?_
  go_tidy
  simp only [moreX,Rform.body,Rform.num,Form.rng]
  simp
  first
   | done
   | ac_rfl
   | (rw [Bool.eq_iff_iff];simp only [Bool.and_eq_true,decide_eq_true_eq];(try simp only [Rform.reg,Form.rng,decide_eq_true_eq]);omega)
   | grind
set_option maxRecDepth 100000 in
theorem more19 (f:Fi) (m:Me) (a b c n:Int) (args:List Int) (ok:Bool) (lb:Nat) (ca:Option Addr) (ccap:Nat) (vm vp:Value) (da:Option Addr) (dcap:Nat) (vh:Value) (aa:Option Addr) (acap:Nat) (w:World)
  (h:Lk w lb (.slice ca f.classes.length ccap) vm vp (.slice da m.code.length dcap) vh m ok) (hF:Fit f m f.classes.length ccap dcap) (oks:Ok a∧Ok b∧Ok c∧Ok n) (ha:args.length≤acap∧acap≤9223372036854775807) :
  Calls Try.prog 64 #[.pointer (some ⟨lb,0,none⟩),.agg #[.int .i64 19,.int .i64 a,.int .i64 b,.int .i64 c,.int .i64 n,.slice aa args.length acap]] w
   (Got w lb (.slice ca f.classes.length ccap) vm vp (.slice da m.code.length dcap) vh m (moreX f m ok ⟨19,a,b,c,n,args⟩)):=by
 obtain ⟨hc1,hc2,hd1,hd2,hr⟩:=hF
 obtain ⟨oa,ob,oc,on⟩:=oks
 obtain ⟨ha1,ha2⟩:=ha
 obtain ⟨hr1,hr2⟩:=hr
 have hr:0≤m.regs∧m.regs≤90:=⟨hr1,hr2⟩
 have hlt:=h.lt
 have hne:w.heap.size≠lb:=by omega
 have hL:=Lib.hid (h.next (Below.alloc (Below.refl _ _) (Nat.le_refl _) (.cells #[.int .i64 19,.int .i64 a,.int .i64 b,.int .i64 c,.int .i64 n,.slice aa args.length acap] 79)) h.lt)
 have hT:Keep w.heap.size lb w (w.alloc (.cells #[.int .i64 19,.int .i64 a,.int .i64 b,.int .i64 c,.int .i64 n,.slice aa args.length acap] 79)):=Keep.alloc (Keep.refl _ _ _) (Nat.le_refl _) _
 have hTs:=hT.size
 have hbl:=hL.out.lt
 have x0:(w.alloc (.cells #[.int .i64 19,.int .i64 a,.int .i64 b,.int .i64 c,.int .i64 n,.slice aa args.length acap] 79)).cell? ⟨w.heap.size,0,none⟩=some (.int .i64 19):=by go_simp
 have x1:(w.alloc (.cells #[.int .i64 19,.int .i64 a,.int .i64 b,.int .i64 c,.int .i64 n,.slice aa args.length acap] 79)).cell? ⟨w.heap.size,1,none⟩=some (.int .i64 a):=by go_simp
 have x2:(w.alloc (.cells #[.int .i64 19,.int .i64 a,.int .i64 b,.int .i64 c,.int .i64 n,.slice aa args.length acap] 79)).cell? ⟨w.heap.size,2,none⟩=some (.int .i64 b):=by go_simp
 have x3:(w.alloc (.cells #[.int .i64 19,.int .i64 a,.int .i64 b,.int .i64 c,.int .i64 n,.slice aa args.length acap] 79)).cell? ⟨w.heap.size,3,none⟩=some (.int .i64 c):=by go_simp
 have x4:(w.alloc (.cells #[.int .i64 19,.int .i64 a,.int .i64 b,.int .i64 c,.int .i64 n,.slice aa args.length acap] 79)).cell? ⟨w.heap.size,4,none⟩=some (.int .i64 n):=by go_simp
 have x5:(w.alloc (.cells #[.int .i64 19,.int .i64 a,.int .i64 b,.int .i64 c,.int .i64 n,.slice aa args.length acap] 79)).cell? ⟨w.heap.size,5,none⟩=some (.slice aa args.length acap):=by go_simp
 clear h
 go_enter Try.func64,Try.ntmps64
 go_wp2_with (first
   | (go_at_call 60;(first | (with_reducible refine (mustA (by first | rfl | simp) hL.out).mono ?_));rintro e w1 ⟨rfl,hA,hK⟩;replace hL:=Lib.hid hA;clear hA;replace hT:=hT.trans (hK.mono hTs);replace hTs:=Nat.le_trans hTs hK.size;replace x0:=hK.cell (lt_cell x0) hne x0;replace x1:=hK.cell (lt_cell x1) hne x1;replace x2:=hK.cell (lt_cell x2) hne x2;replace x3:=hK.cell (lt_cell x3) hne x3;replace x4:=hK.cell (lt_cell x4) hne x4;replace x5:=hK.cell (lt_cell x5) hne x5;replace hbl:=hL.out.lt;clear hK)
   | (go_at_call 61;(first | (with_reducible refine (reg1A (by first | rfl | simp) hL.out (by first | with_reducible assumption | (unfold Ok;omega)) hr).mono ?_) | (with_reducible refine (reg2A (by first | rfl | simp) hL.out (by first | with_reducible assumption | (unfold Ok;omega)) hr).mono ?_) | (with_reducible refine (reg3A (by first | rfl | simp) hL.out (by first | with_reducible assumption | (unfold Ok;omega)) hr).mono ?_));rintro e w1 ⟨rfl,hA,hK⟩;replace hL:=Lib.hid hA;clear hA;replace hT:=hT.trans (hK.mono hTs);replace hTs:=Nat.le_trans hTs hK.size;replace x0:=hK.cell (lt_cell x0) hne x0;replace x1:=hK.cell (lt_cell x1) hne x1;replace x2:=hK.cell (lt_cell x2) hne x2;replace x3:=hK.cell (lt_cell x3) hne x3;replace x4:=hK.cell (lt_cell x4) hne x4;replace x5:=hK.cell (lt_cell x5) hne x5;replace hbl:=hL.out.lt;clear hK)
   | (go_at_call 62;(first | (with_reducible refine (nought1A (by first | rfl | simp) hL.out).mono ?_) | (with_reducible refine (nought2A (by first | rfl | simp) hL.out).mono ?_));rintro e w1 ⟨rfl,hA,hK⟩;replace hL:=Lib.hid hA;clear hA;replace hT:=hT.trans (hK.mono hTs);replace hTs:=Nat.le_trans hTs hK.size;replace x0:=hK.cell (lt_cell x0) hne x0;replace x1:=hK.cell (lt_cell x1) hne x1;replace x2:=hK.cell (lt_cell x2) hne x2;replace x3:=hK.cell (lt_cell x3) hne x3;replace x4:=hK.cell (lt_cell x4) hne x4;replace x5:=hK.cell (lt_cell x5) hne x5;replace hbl:=hL.out.lt;clear hK)
   | (go_at_call 63;(first | (with_reducible refine (atA hL.out hd1 hd2).mono ?_));rintro e w1 ⟨rfl,hA,hK⟩;replace hL:=Lib.hid hA;clear hA;replace hT:=hT.trans (hK.mono hTs);replace hTs:=Nat.le_trans hTs hK.size;replace x0:=hK.cell (lt_cell x0) hne x0;replace x1:=hK.cell (lt_cell x1) hne x1;replace x2:=hK.cell (lt_cell x2) hne x2;replace x3:=hK.cell (lt_cell x3) hne x3;replace x4:=hK.cell (lt_cell x4) hne x4;replace x5:=hK.cell (lt_cell x5) hne x5;replace hbl:=hL.out.lt;clear hK)
   | (go_at_call 100;(first | (with_reducible refine (clsA hL.out hc1 hc2).mono ?_));rintro e w1 ⟨rfl,hA,hK⟩;replace hL:=Lib.hid hA;clear hA;replace hT:=hT.trans (hK.mono hTs);replace hTs:=Nat.le_trans hTs hK.size;replace x0:=hK.cell (lt_cell x0) hne x0;replace x1:=hK.cell (lt_cell x1) hne x1;replace x2:=hK.cell (lt_cell x2) hne x2;replace x3:=hK.cell (lt_cell x3) hne x3;replace x4:=hK.cell (lt_cell x4) hne x4;replace x5:=hK.cell (lt_cell x5) hne x5;replace hbl:=hL.out.lt;clear hK)
   | (go_at_call 30;refine (lin _ _ _ _).mono ?_;rintro e w1 ⟨rfl,rfl⟩))
 all_goals
  go_ret
  refine got_eq hL.out hT ?_
  go_tidy
  simp only [moreX,Rform.body,Rform.num,Form.rng]
  simp
  first
   | done
   | ac_rfl
   | (rw [Bool.eq_iff_iff];simp only [Bool.and_eq_true,decide_eq_true_eq];(try simp only [Rform.reg,Form.rng,decide_eq_true_eq]);omega)
   | grind
set_option maxRecDepth 100000 in
theorem more23 (f:Fi) (m:Me) (a b c n:Int) (args:List Int) (ok:Bool) (lb:Nat) (ca:Option Addr) (ccap:Nat) (vm vp:Value) (da:Option Addr) (dcap:Nat) (vh:Value) (aa:Option Addr) (acap:Nat) (w:World)
  (h:Lk w lb (.slice ca f.classes.length ccap) vm vp (.slice da m.code.length dcap) vh m ok) (hF:Fit f m f.classes.length ccap dcap) (oks:Ok a∧Ok b∧Ok c∧Ok n) (ha:args.length≤acap∧acap≤9223372036854775807) :
  Calls Try.prog 64 #[.pointer (some ⟨lb,0,none⟩),.agg #[.int .i64 23,.int .i64 a,.int .i64 b,.int .i64 c,.int .i64 n,.slice aa args.length acap]] w
   (Got w lb (.slice ca f.classes.length ccap) vm vp (.slice da m.code.length dcap) vh m (moreX f m ok ⟨23,a,b,c,n,args⟩)):=by
 obtain ⟨hc1,hc2,hd1,hd2,hr⟩:=hF
 obtain ⟨oa,ob,oc,on⟩:=oks
 obtain ⟨ha1,ha2⟩:=ha
 obtain ⟨hr1,hr2⟩:=hr
 have hr:0≤m.regs∧m.regs≤90:=⟨hr1,hr2⟩
 have hlt:=h.lt
 have hne:w.heap.size≠lb:=by omega
 have hL:=Lib.hid (h.next (Below.alloc (Below.refl _ _) (Nat.le_refl _) (.cells #[.int .i64 23,.int .i64 a,.int .i64 b,.int .i64 c,.int .i64 n,.slice aa args.length acap] 79)) h.lt)
 have hT:Keep w.heap.size lb w (w.alloc (.cells #[.int .i64 23,.int .i64 a,.int .i64 b,.int .i64 c,.int .i64 n,.slice aa args.length acap] 79)):=Keep.alloc (Keep.refl _ _ _) (Nat.le_refl _) _
 have hTs:=hT.size
 have hbl:=hL.out.lt
 have x0:(w.alloc (.cells #[.int .i64 23,.int .i64 a,.int .i64 b,.int .i64 c,.int .i64 n,.slice aa args.length acap] 79)).cell? ⟨w.heap.size,0,none⟩=some (.int .i64 23):=by go_simp
 have x1:(w.alloc (.cells #[.int .i64 23,.int .i64 a,.int .i64 b,.int .i64 c,.int .i64 n,.slice aa args.length acap] 79)).cell? ⟨w.heap.size,1,none⟩=some (.int .i64 a):=by go_simp
 have x2:(w.alloc (.cells #[.int .i64 23,.int .i64 a,.int .i64 b,.int .i64 c,.int .i64 n,.slice aa args.length acap] 79)).cell? ⟨w.heap.size,2,none⟩=some (.int .i64 b):=by go_simp
 have x3:(w.alloc (.cells #[.int .i64 23,.int .i64 a,.int .i64 b,.int .i64 c,.int .i64 n,.slice aa args.length acap] 79)).cell? ⟨w.heap.size,3,none⟩=some (.int .i64 c):=by go_simp
 have x4:(w.alloc (.cells #[.int .i64 23,.int .i64 a,.int .i64 b,.int .i64 c,.int .i64 n,.slice aa args.length acap] 79)).cell? ⟨w.heap.size,4,none⟩=some (.int .i64 n):=by go_simp
 have x5:(w.alloc (.cells #[.int .i64 23,.int .i64 a,.int .i64 b,.int .i64 c,.int .i64 n,.slice aa args.length acap] 79)).cell? ⟨w.heap.size,5,none⟩=some (.slice aa args.length acap):=by go_simp
 clear h
 go_enter Try.func64,Try.ntmps64
 go_wp2_with (first
   | (go_at_call 60;(first | (with_reducible refine (mustA (by first | rfl | simp) hL.out).mono ?_));rintro e w1 ⟨rfl,hA,hK⟩;replace hL:=Lib.hid hA;clear hA;replace hT:=hT.trans (hK.mono hTs);replace hTs:=Nat.le_trans hTs hK.size;replace x0:=hK.cell (lt_cell x0) hne x0;replace x1:=hK.cell (lt_cell x1) hne x1;replace x2:=hK.cell (lt_cell x2) hne x2;replace x3:=hK.cell (lt_cell x3) hne x3;replace x4:=hK.cell (lt_cell x4) hne x4;replace x5:=hK.cell (lt_cell x5) hne x5;replace hbl:=hL.out.lt;clear hK)
   | (go_at_call 61;(first | (with_reducible refine (reg1A (by first | rfl | simp) hL.out (by first | with_reducible assumption | (unfold Ok;omega)) hr).mono ?_) | (with_reducible refine (reg2A (by first | rfl | simp) hL.out (by first | with_reducible assumption | (unfold Ok;omega)) hr).mono ?_) | (with_reducible refine (reg3A (by first | rfl | simp) hL.out (by first | with_reducible assumption | (unfold Ok;omega)) hr).mono ?_));rintro e w1 ⟨rfl,hA,hK⟩;replace hL:=Lib.hid hA;clear hA;replace hT:=hT.trans (hK.mono hTs);replace hTs:=Nat.le_trans hTs hK.size;replace x0:=hK.cell (lt_cell x0) hne x0;replace x1:=hK.cell (lt_cell x1) hne x1;replace x2:=hK.cell (lt_cell x2) hne x2;replace x3:=hK.cell (lt_cell x3) hne x3;replace x4:=hK.cell (lt_cell x4) hne x4;replace x5:=hK.cell (lt_cell x5) hne x5;replace hbl:=hL.out.lt;clear hK)
   | (go_at_call 62;(first | (with_reducible refine (nought1A (by first | rfl | simp) hL.out).mono ?_) | (with_reducible refine (nought2A (by first | rfl | simp) hL.out).mono ?_));rintro e w1 ⟨rfl,hA,hK⟩;replace hL:=Lib.hid hA;clear hA;replace hT:=hT.trans (hK.mono hTs);replace hTs:=Nat.le_trans hTs hK.size;replace x0:=hK.cell (lt_cell x0) hne x0;replace x1:=hK.cell (lt_cell x1) hne x1;replace x2:=hK.cell (lt_cell x2) hne x2;replace x3:=hK.cell (lt_cell x3) hne x3;replace x4:=hK.cell (lt_cell x4) hne x4;replace x5:=hK.cell (lt_cell x5) hne x5;replace hbl:=hL.out.lt;clear hK)
   | (go_at_call 63;(first | (with_reducible refine (atA hL.out hd1 hd2).mono ?_));rintro e w1 ⟨rfl,hA,hK⟩;replace hL:=Lib.hid hA;clear hA;replace hT:=hT.trans (hK.mono hTs);replace hTs:=Nat.le_trans hTs hK.size;replace x0:=hK.cell (lt_cell x0) hne x0;replace x1:=hK.cell (lt_cell x1) hne x1;replace x2:=hK.cell (lt_cell x2) hne x2;replace x3:=hK.cell (lt_cell x3) hne x3;replace x4:=hK.cell (lt_cell x4) hne x4;replace x5:=hK.cell (lt_cell x5) hne x5;replace hbl:=hL.out.lt;clear hK)
   | (go_at_call 100;(first | (with_reducible refine (clsA hL.out hc1 hc2).mono ?_));rintro e w1 ⟨rfl,hA,hK⟩;replace hL:=Lib.hid hA;clear hA;replace hT:=hT.trans (hK.mono hTs);replace hTs:=Nat.le_trans hTs hK.size;replace x0:=hK.cell (lt_cell x0) hne x0;replace x1:=hK.cell (lt_cell x1) hne x1;replace x2:=hK.cell (lt_cell x2) hne x2;replace x3:=hK.cell (lt_cell x3) hne x3;replace x4:=hK.cell (lt_cell x4) hne x4;replace x5:=hK.cell (lt_cell x5) hne x5;replace hbl:=hL.out.lt;clear hK)
   | (go_at_call 30;refine (lin _ _ _ _).mono ?_;rintro e w1 ⟨rfl,rfl⟩))
 all_goals
  go_ret
  refine got_eq hL.out hT ?_
  go_tidy
  simp only [moreX,Rform.body,Rform.num,Form.rng]
  simp
  first
   | done
   | ac_rfl
   | (rw [Bool.eq_iff_iff];simp only [Bool.and_eq_true,decide_eq_true_eq];(try simp only [Rform.reg,Form.rng,decide_eq_true_eq]);omega)
   | grind
set_option maxRecDepth 100000 in
theorem more24 (f:Fi) (m:Me) (a b c n:Int) (args:List Int) (ok:Bool) (lb:Nat) (ca:Option Addr) (ccap:Nat) (vm vp:Value) (da:Option Addr) (dcap:Nat) (vh:Value) (aa:Option Addr) (acap:Nat) (w:World)
  (h:Lk w lb (.slice ca f.classes.length ccap) vm vp (.slice da m.code.length dcap) vh m ok) (hF:Fit f m f.classes.length ccap dcap) (oks:Ok a∧Ok b∧Ok c∧Ok n) (ha:args.length≤acap∧acap≤9223372036854775807) :
  Calls Try.prog 64 #[.pointer (some ⟨lb,0,none⟩),.agg #[.int .i64 24,.int .i64 a,.int .i64 b,.int .i64 c,.int .i64 n,.slice aa args.length acap]] w
   (Got w lb (.slice ca f.classes.length ccap) vm vp (.slice da m.code.length dcap) vh m (moreX f m ok ⟨24,a,b,c,n,args⟩)):=by
 obtain ⟨hc1,hc2,hd1,hd2,hr⟩:=hF
 obtain ⟨oa,ob,oc,on⟩:=oks
 obtain ⟨ha1,ha2⟩:=ha
 obtain ⟨hr1,hr2⟩:=hr
 have hr:0≤m.regs∧m.regs≤90:=⟨hr1,hr2⟩
 have hlt:=h.lt
 have hne:w.heap.size≠lb:=by omega
 have hL:=Lib.hid (h.next (Below.alloc (Below.refl _ _) (Nat.le_refl _) (.cells #[.int .i64 24,.int .i64 a,.int .i64 b,.int .i64 c,.int .i64 n,.slice aa args.length acap] 79)) h.lt)
 have hT:Keep w.heap.size lb w (w.alloc (.cells #[.int .i64 24,.int .i64 a,.int .i64 b,.int .i64 c,.int .i64 n,.slice aa args.length acap] 79)):=Keep.alloc (Keep.refl _ _ _) (Nat.le_refl _) _
 have hTs:=hT.size
 have hbl:=hL.out.lt
 have x0:(w.alloc (.cells #[.int .i64 24,.int .i64 a,.int .i64 b,.int .i64 c,.int .i64 n,.slice aa args.length acap] 79)).cell? ⟨w.heap.size,0,none⟩=some (.int .i64 24):=by go_simp
 have x1:(w.alloc (.cells #[.int .i64 24,.int .i64 a,.int .i64 b,.int .i64 c,.int .i64 n,.slice aa args.length acap] 79)).cell? ⟨w.heap.size,1,none⟩=some (.int .i64 a):=by go_simp
 have x2:(w.alloc (.cells #[.int .i64 24,.int .i64 a,.int .i64 b,.int .i64 c,.int .i64 n,.slice aa args.length acap] 79)).cell? ⟨w.heap.size,2,none⟩=some (.int .i64 b):=by go_simp
 have x3:(w.alloc (.cells #[.int .i64 24,.int .i64 a,.int .i64 b,.int .i64 c,.int .i64 n,.slice aa args.length acap] 79)).cell? ⟨w.heap.size,3,none⟩=some (.int .i64 c):=by go_simp
 have x4:(w.alloc (.cells #[.int .i64 24,.int .i64 a,.int .i64 b,.int .i64 c,.int .i64 n,.slice aa args.length acap] 79)).cell? ⟨w.heap.size,4,none⟩=some (.int .i64 n):=by go_simp
 have x5:(w.alloc (.cells #[.int .i64 24,.int .i64 a,.int .i64 b,.int .i64 c,.int .i64 n,.slice aa args.length acap] 79)).cell? ⟨w.heap.size,5,none⟩=some (.slice aa args.length acap):=by go_simp
 clear h
 go_enter Try.func64,Try.ntmps64
 go_wp2_with (first
   | (go_at_call 60;(first | (with_reducible refine (mustA (by first | rfl | simp) hL.out).mono ?_));rintro e w1 ⟨rfl,hA,hK⟩;replace hL:=Lib.hid hA;clear hA;replace hT:=hT.trans (hK.mono hTs);replace hTs:=Nat.le_trans hTs hK.size;replace x0:=hK.cell (lt_cell x0) hne x0;replace x1:=hK.cell (lt_cell x1) hne x1;replace x2:=hK.cell (lt_cell x2) hne x2;replace x3:=hK.cell (lt_cell x3) hne x3;replace x4:=hK.cell (lt_cell x4) hne x4;replace x5:=hK.cell (lt_cell x5) hne x5;replace hbl:=hL.out.lt;clear hK)
   | (go_at_call 61;(first | (with_reducible refine (reg1A (by first | rfl | simp) hL.out (by first | with_reducible assumption | (unfold Ok;omega)) hr).mono ?_) | (with_reducible refine (reg2A (by first | rfl | simp) hL.out (by first | with_reducible assumption | (unfold Ok;omega)) hr).mono ?_) | (with_reducible refine (reg3A (by first | rfl | simp) hL.out (by first | with_reducible assumption | (unfold Ok;omega)) hr).mono ?_));rintro e w1 ⟨rfl,hA,hK⟩;replace hL:=Lib.hid hA;clear hA;replace hT:=hT.trans (hK.mono hTs);replace hTs:=Nat.le_trans hTs hK.size;replace x0:=hK.cell (lt_cell x0) hne x0;replace x1:=hK.cell (lt_cell x1) hne x1;replace x2:=hK.cell (lt_cell x2) hne x2;replace x3:=hK.cell (lt_cell x3) hne x3;replace x4:=hK.cell (lt_cell x4) hne x4;replace x5:=hK.cell (lt_cell x5) hne x5;replace hbl:=hL.out.lt;clear hK)
   | (go_at_call 62;(first | (with_reducible refine (nought1A (by first | rfl | simp) hL.out).mono ?_) | (with_reducible refine (nought2A (by first | rfl | simp) hL.out).mono ?_));rintro e w1 ⟨rfl,hA,hK⟩;replace hL:=Lib.hid hA;clear hA;replace hT:=hT.trans (hK.mono hTs);replace hTs:=Nat.le_trans hTs hK.size;replace x0:=hK.cell (lt_cell x0) hne x0;replace x1:=hK.cell (lt_cell x1) hne x1;replace x2:=hK.cell (lt_cell x2) hne x2;replace x3:=hK.cell (lt_cell x3) hne x3;replace x4:=hK.cell (lt_cell x4) hne x4;replace x5:=hK.cell (lt_cell x5) hne x5;replace hbl:=hL.out.lt;clear hK)
   | (go_at_call 63;(first | (with_reducible refine (atA hL.out hd1 hd2).mono ?_));rintro e w1 ⟨rfl,hA,hK⟩;replace hL:=Lib.hid hA;clear hA;replace hT:=hT.trans (hK.mono hTs);replace hTs:=Nat.le_trans hTs hK.size;replace x0:=hK.cell (lt_cell x0) hne x0;replace x1:=hK.cell (lt_cell x1) hne x1;replace x2:=hK.cell (lt_cell x2) hne x2;replace x3:=hK.cell (lt_cell x3) hne x3;replace x4:=hK.cell (lt_cell x4) hne x4;replace x5:=hK.cell (lt_cell x5) hne x5;replace hbl:=hL.out.lt;clear hK)
   | (go_at_call 100;(first | (with_reducible refine (clsA hL.out hc1 hc2).mono ?_));rintro e w1 ⟨rfl,hA,hK⟩;replace hL:=Lib.hid hA;clear hA;replace hT:=hT.trans (hK.mono hTs);replace hTs:=Nat.le_trans hTs hK.size;replace x0:=hK.cell (lt_cell x0) hne x0;replace x1:=hK.cell (lt_cell x1) hne x1;replace x2:=hK.cell (lt_cell x2) hne x2;replace x3:=hK.cell (lt_cell x3) hne x3;replace x4:=hK.cell (lt_cell x4) hne x4;replace x5:=hK.cell (lt_cell x5) hne x5;replace hbl:=hL.out.lt;clear hK)
   | (go_at_call 30;refine (lin _ _ _ _).mono ?_;rintro e w1 ⟨rfl,rfl⟩))
 all_goals
  go_ret
  refine got_eq hL.out hT ?_
  go_tidy
  simp only [moreX,Rform.body,Rform.num,Form.rng]
  simp
  first
   | done
   | ac_rfl
   | (rw [Bool.eq_iff_iff];simp only [Bool.and_eq_true,decide_eq_true_eq];(try simp only [Rform.reg,Form.rng,decide_eq_true_eq]);omega)
   | grind
set_option maxRecDepth 100000 in
theorem moreNo (f:Fi) (m:Me) (op a b c n:Int) (args:List Int) (ok:Bool) (lb:Nat) (ca:Option Addr) (ccap:Nat) (vm vp:Value) (da:Option Addr) (dcap:Nat) (vh:Value) (aa:Option Addr) (acap:Nat) (w:World)
  (h:Lk w lb (.slice ca f.classes.length ccap) vm vp (.slice da m.code.length dcap) vh m ok) (hF:Fit f m f.classes.length ccap dcap) (oks:Ok a∧Ok b∧Ok c∧Ok n) (ha:args.length≤acap∧acap≤9223372036854775807) (hop:¬ (13≤op∧op≤20)∧op≠23∧op≠24∧¬ (1≤op∧op≤12)∧op≠21∧op≠22) :
  Calls Try.prog 64 #[.pointer (some ⟨lb,0,none⟩),.agg #[.int .i64 op,.int .i64 a,.int .i64 b,.int .i64 c,.int .i64 n,.slice aa args.length acap]] w
   (Got w lb (.slice ca f.classes.length ccap) vm vp (.slice da m.code.length dcap) vh m (moreX f m ok ⟨op,a,b,c,n,args⟩)):=by
 obtain ⟨hc1,hc2,hd1,hd2,hr⟩:=hF
 obtain ⟨oa,ob,oc,on⟩:=oks
 obtain ⟨ha1,ha2⟩:=ha
 obtain ⟨hr1,hr2⟩:=hr
 have hr:0≤m.regs∧m.regs≤90:=⟨hr1,hr2⟩
 have hlt:=h.lt
 have hne:w.heap.size≠lb:=by omega
 have hL:=Lib.hid (h.next (Below.alloc (Below.refl _ _) (Nat.le_refl _) (.cells #[.int .i64 op,.int .i64 a,.int .i64 b,.int .i64 c,.int .i64 n,.slice aa args.length acap] 79)) h.lt)
 have hT:Keep w.heap.size lb w (w.alloc (.cells #[.int .i64 op,.int .i64 a,.int .i64 b,.int .i64 c,.int .i64 n,.slice aa args.length acap] 79)):=Keep.alloc (Keep.refl _ _ _) (Nat.le_refl _) _
 have hTs:=hT.size
 have hbl:=hL.out.lt
 have x0:(w.alloc (.cells #[.int .i64 op,.int .i64 a,.int .i64 b,.int .i64 c,.int .i64 n,.slice aa args.length acap] 79)).cell? ⟨w.heap.size,0,none⟩=some (.int .i64 op):=by go_simp
 have x1:(w.alloc (.cells #[.int .i64 op,.int .i64 a,.int .i64 b,.int .i64 c,.int .i64 n,.slice aa args.length acap] 79)).cell? ⟨w.heap.size,1,none⟩=some (.int .i64 a):=by go_simp
 have x2:(w.alloc (.cells #[.int .i64 op,.int .i64 a,.int .i64 b,.int .i64 c,.int .i64 n,.slice aa args.length acap] 79)).cell? ⟨w.heap.size,2,none⟩=some (.int .i64 b):=by go_simp
 have x3:(w.alloc (.cells #[.int .i64 op,.int .i64 a,.int .i64 b,.int .i64 c,.int .i64 n,.slice aa args.length acap] 79)).cell? ⟨w.heap.size,3,none⟩=some (.int .i64 c):=by go_simp
 have x4:(w.alloc (.cells #[.int .i64 op,.int .i64 a,.int .i64 b,.int .i64 c,.int .i64 n,.slice aa args.length acap] 79)).cell? ⟨w.heap.size,4,none⟩=some (.int .i64 n):=by go_simp
 have x5:(w.alloc (.cells #[.int .i64 op,.int .i64 a,.int .i64 b,.int .i64 c,.int .i64 n,.slice aa args.length acap] 79)).cell? ⟨w.heap.size,5,none⟩=some (.slice aa args.length acap):=by go_simp
 clear h
 have n13:(op==13)=false:=by simp;omega
 have n16:(op==16)=false:=by simp;omega
 have n14:(op==14)=false:=by simp;omega
 have n15:(op==15)=false:=by simp;omega
 have n17:(op==17)=false:=by simp;omega
 have n18:(op==18)=false:=by simp;omega
 have n19:(op==19)=false:=by simp;omega
 have n23:(op==23)=false:=by simp;omega
 have n20:(op==20)=false:=by simp;omega
 have n24:(op==24)=false:=by simp;omega
 have hX:Hid (moreX f m ok ⟨op,a,b,c,n,args⟩=false):=by
  show _=_
  unfold moreX
  have:Rform.body f.classes f.methods m.code.length m.regs m.ret.kind ⟨op,a,b,c,n,args⟩=false:=by
   unfold Rform.body
   simp only
   repeat rw [if_neg (by omega)]
  rw [this];simp
 clear hop
 go_enter Try.func64,Try.ntmps64
 go_wp2_with (first
   | (go_at_call 60;(first | (with_reducible refine (mustA (by first | rfl | simp) hL.out).mono ?_));rintro e w1 ⟨rfl,hA,hK⟩;replace hL:=Lib.hid hA;clear hA;replace hT:=hT.trans (hK.mono hTs);replace hTs:=Nat.le_trans hTs hK.size;replace x0:=hK.cell (lt_cell x0) hne x0;replace x1:=hK.cell (lt_cell x1) hne x1;replace x2:=hK.cell (lt_cell x2) hne x2;replace x3:=hK.cell (lt_cell x3) hne x3;replace x4:=hK.cell (lt_cell x4) hne x4;replace x5:=hK.cell (lt_cell x5) hne x5;replace hbl:=hL.out.lt;clear hK)
   | (go_at_call 61;(first | (with_reducible refine (reg1A (by first | rfl | simp) hL.out (by first | with_reducible assumption | (unfold Ok;omega)) hr).mono ?_) | (with_reducible refine (reg2A (by first | rfl | simp) hL.out (by first | with_reducible assumption | (unfold Ok;omega)) hr).mono ?_) | (with_reducible refine (reg3A (by first | rfl | simp) hL.out (by first | with_reducible assumption | (unfold Ok;omega)) hr).mono ?_));rintro e w1 ⟨rfl,hA,hK⟩;replace hL:=Lib.hid hA;clear hA;replace hT:=hT.trans (hK.mono hTs);replace hTs:=Nat.le_trans hTs hK.size;replace x0:=hK.cell (lt_cell x0) hne x0;replace x1:=hK.cell (lt_cell x1) hne x1;replace x2:=hK.cell (lt_cell x2) hne x2;replace x3:=hK.cell (lt_cell x3) hne x3;replace x4:=hK.cell (lt_cell x4) hne x4;replace x5:=hK.cell (lt_cell x5) hne x5;replace hbl:=hL.out.lt;clear hK)
   | (go_at_call 62;(first | (with_reducible refine (nought1A (by first | rfl | simp) hL.out).mono ?_) | (with_reducible refine (nought2A (by first | rfl | simp) hL.out).mono ?_));rintro e w1 ⟨rfl,hA,hK⟩;replace hL:=Lib.hid hA;clear hA;replace hT:=hT.trans (hK.mono hTs);replace hTs:=Nat.le_trans hTs hK.size;replace x0:=hK.cell (lt_cell x0) hne x0;replace x1:=hK.cell (lt_cell x1) hne x1;replace x2:=hK.cell (lt_cell x2) hne x2;replace x3:=hK.cell (lt_cell x3) hne x3;replace x4:=hK.cell (lt_cell x4) hne x4;replace x5:=hK.cell (lt_cell x5) hne x5;replace hbl:=hL.out.lt;clear hK)
   | (go_at_call 63;(first | (with_reducible refine (atA hL.out hd1 hd2).mono ?_));rintro e w1 ⟨rfl,hA,hK⟩;replace hL:=Lib.hid hA;clear hA;replace hT:=hT.trans (hK.mono hTs);replace hTs:=Nat.le_trans hTs hK.size;replace x0:=hK.cell (lt_cell x0) hne x0;replace x1:=hK.cell (lt_cell x1) hne x1;replace x2:=hK.cell (lt_cell x2) hne x2;replace x3:=hK.cell (lt_cell x3) hne x3;replace x4:=hK.cell (lt_cell x4) hne x4;replace x5:=hK.cell (lt_cell x5) hne x5;replace hbl:=hL.out.lt;clear hK)
   | (go_at_call 100;(first | (with_reducible refine (clsA hL.out hc1 hc2).mono ?_));rintro e w1 ⟨rfl,hA,hK⟩;replace hL:=Lib.hid hA;clear hA;replace hT:=hT.trans (hK.mono hTs);replace hTs:=Nat.le_trans hTs hK.size;replace x0:=hK.cell (lt_cell x0) hne x0;replace x1:=hK.cell (lt_cell x1) hne x1;replace x2:=hK.cell (lt_cell x2) hne x2;replace x3:=hK.cell (lt_cell x3) hne x3;replace x4:=hK.cell (lt_cell x4) hne x4;replace x5:=hK.cell (lt_cell x5) hne x5;replace hbl:=hL.out.lt;clear hK)
   | (go_at_call 30;refine (lin _ _ _ _).mono ?_;rintro e w1 ⟨rfl,rfl⟩))
 go_ret
 rw [hX.out]
 refine got_eq hL.out hT ?_
 simp
end Look
namespace Look
open Num Rd D HierW FormW
set_option maxRecDepth 100000 in
theorem more14 (f:Fi) (m:Me) (a b c n:Int) (args:List Int) (ok:Bool) (lb:Nat) (ca:Option Addr) (ccap:Nat) (vm vp:Value) (da:Option Addr) (dcap:Nat) (vh:Value) (aa:Option Addr) (acap:Nat) (w:World)
  (h:Lk w lb (.slice ca f.classes.length ccap) vm vp (.slice da m.code.length dcap) vh m ok) (hF:Fit f m f.classes.length ccap dcap) (oks:Ok a∧Ok b∧Ok c∧Ok n) (ha:args.length≤acap∧acap≤9223372036854775807) (B0:Nat) (hB:B0≤lb) (hcl:Sl 2 ECls w B0 (.slice ca f.classes.length ccap) f.classes) :
  Calls Try.prog 64 #[.pointer (some ⟨lb,0,none⟩),.agg #[.int .i64 14,.int .i64 a,.int .i64 b,.int .i64 c,.int .i64 n,.slice aa args.length acap]] w
   (Got w lb (.slice ca f.classes.length ccap) vm vp (.slice da m.code.length dcap) vh m (moreX f m ok ⟨14,a,b,c,n,args⟩)):=by
 obtain ⟨hc1,hc2,hd1,hd2,hr⟩:=hF
 obtain ⟨oa,ob,oc,on⟩:=oks
 obtain ⟨ha1,ha2⟩:=ha
 obtain ⟨hr1,hr2⟩:=hr
 have hr:0≤m.regs∧m.regs≤90:=⟨hr1,hr2⟩
 have hlt:=h.lt
 have hne:w.heap.size≠lb:=by omega
 have hL:=Lib.hid (h.next (Below.alloc (Below.refl _ _) (Nat.le_refl _) (.cells #[.int .i64 14,.int .i64 a,.int .i64 b,.int .i64 c,.int .i64 n,.slice aa args.length acap] 79)) h.lt)
 have hT:Keep w.heap.size lb w (w.alloc (.cells #[.int .i64 14,.int .i64 a,.int .i64 b,.int .i64 c,.int .i64 n,.slice aa args.length acap] 79)):=Keep.alloc (Keep.refl _ _ _) (Nat.le_refl _) _
 have hTs:=hT.size
 have hbl:=hL.out.lt
 have x0:(w.alloc (.cells #[.int .i64 14,.int .i64 a,.int .i64 b,.int .i64 c,.int .i64 n,.slice aa args.length acap] 79)).cell? ⟨w.heap.size,0,none⟩=some (.int .i64 14):=by go_simp
 have x1:(w.alloc (.cells #[.int .i64 14,.int .i64 a,.int .i64 b,.int .i64 c,.int .i64 n,.slice aa args.length acap] 79)).cell? ⟨w.heap.size,1,none⟩=some (.int .i64 a):=by go_simp
 have x2:(w.alloc (.cells #[.int .i64 14,.int .i64 a,.int .i64 b,.int .i64 c,.int .i64 n,.slice aa args.length acap] 79)).cell? ⟨w.heap.size,2,none⟩=some (.int .i64 b):=by go_simp
 have x3:(w.alloc (.cells #[.int .i64 14,.int .i64 a,.int .i64 b,.int .i64 c,.int .i64 n,.slice aa args.length acap] 79)).cell? ⟨w.heap.size,3,none⟩=some (.int .i64 c):=by go_simp
 have x4:(w.alloc (.cells #[.int .i64 14,.int .i64 a,.int .i64 b,.int .i64 c,.int .i64 n,.slice aa args.length acap] 79)).cell? ⟨w.heap.size,4,none⟩=some (.int .i64 n):=by go_simp
 have x5:(w.alloc (.cells #[.int .i64 14,.int .i64 a,.int .i64 b,.int .i64 c,.int .i64 n,.slice aa args.length acap] 79)).cell? ⟨w.heap.size,5,none⟩=some (.slice aa args.length acap):=by go_simp
 clear h
 go_enter Try.func64,Try.ntmps64
 go_wp2_with fail
 refine (clsA hL.out hc1 hc2).mono ?_
 rintro e w1 ⟨rfl,hA,hK⟩
 replace hL:=Lib.hid hA;clear hA;replace hT:=hT.trans (hK.mono hTs);replace hTs:=Nat.le_trans hTs hK.size;replace x0:=hK.cell (lt_cell x0) hne x0;replace x1:=hK.cell (lt_cell x1) hne x1;replace x2:=hK.cell (lt_cell x2) hne x2;replace x3:=hK.cell (lt_cell x3) hne x3;replace x4:=hK.cell (lt_cell x4) hne x4;replace x5:=hK.cell (lt_cell x5) hne x5;replace hbl:=hL.out.lt;clear hK
 obtain ⟨q,hq⟩:∃ q,Hid ((ok && Form.rng c 0 f.classes.length)=q):=⟨_,rfl⟩
 rw [hq.out] at hL
 have z10:=hL.out.2.2.1
 cases q
 ·have hX:Hid (moreX f m ok ⟨14,a,b,c,n,args⟩=false):=by
   show _=_
   have h:=hq.out
   rw [Bool.and_eq_false_iff] at h
   rcases h with h | h <;> simp [moreX,Rform.body,h]
  go_wp2_with fail
  go_ret
  rw [hX.out]
  exact got_eq hL.out hT (by simp)
 ·have hq2:=hq.out
  rw [Bool.and_eq_true] at hq2
  obtain ⟨hok,hrc⟩:=hq2
  have hr2:0≤c∧c < f.classes.length:=by simpa [Form.rng] using hrc
  obtain ⟨k,rfl⟩:=Int.eq_ofNat_of_zero_le hr2.1
  have hk:k < f.classes.length:=by omega
  obtain ⟨ca',ccap',hca,_,_,cel⟩:=hcl
  injection hca with hca1 hca2 hca3
  subst hca1
  obtain ⟨b0,o0,rfl,hb0,he⟩:=cel k hk
  have hnf:Hid (Form.nf f.classes (k:Int)=(f.classes[k]).fields.length):=by
   show _=_
   rw [Form.nf,Int.toNat_natCast,Hier.at_eq hk]
  have hfk:Hid (∀ j:Nat,Rform.fk f.classes (k:Int) (j:Int)=((f.classes[k]).fields.getD j ⟨0,0⟩).kind):=by
   intro j
   rw [Rform.fk,Int.toNat_natCast,Int.toNat_natCast,Hier.at_eq hk]
  obtain ⟨x,hx⟩:=at_of hk
  rw [hx.out] at he hnf hfk
  obtain ⟨_,_,fv,g3,fa,fcap,rfl,flc,fcc,fel⟩:=he
  have hb0':b0 < w.heap.size:=by omega
  have g4:=hT.cell hb0' (by omega) g3
  have y0:=hL.out.1.1
  have hk0:(0:Int)≤(k:Int)∧(k:Int) < f.classes.length:=⟨by omega,by omega⟩
  have hXX:Hid (∀ p:Bool,p=(Form.rng n 0 x.fields.length && Rform.reg m.regs a (Rform.fk f.classes k n) && Rform.reg m.regs b 3)→moreX f m ok ⟨14,a,b,(k:Int),n,args⟩=p):=by
   intro p hp
   subst hp
   have h:=hnf.out
   simp [moreX,Rform.body,Rform.num,hok,hrc,h]
  clear cel hrc hr2 g3 hq hca2 hca3
  go_wp2_with fail
  refine Drawn.hd (fun w'=>w'.cell? ⟨lb,0,none⟩=some (.slice (some ⟨b0,o0,none⟩) f.classes.length ccap)∧w'.cell? ⟨w.heap.size,3,none⟩=some (.int .i64 (k:Int))∧w'.cell? ⟨b0,o0+k*2+1,none⟩=some (.slice fa x.fields.length fcap)) (hS:=by (try dsimp only);first | exact ⟨y0,x3,g4⟩ | go_keep) (h:=fun hHeld=>?_)
  refine Drawn.T 0 (some 43) (h:=?_)
  refine Drawn.T 1 (some 44) (h:=?_)
  refine Drawn.T 2 (some 45) (h:=?_)
  refine Drawn.T 3 (some 46) (h:=?_)
  refine Drawn.T 4 (some 47) (h:=?_)
  refine Drawn.T 5 (some 48) (h:=?_)
  refine Drawn.T 6 (some 49) (h:=?_)
  refine Drawn.T 7 (some 50) (h:=?_)
  refine Drawn.T 8 (some 51) (h:=?_)
  refine Drawn.T 9 (some 52) (h:=?_)
  refine Drawn.T 10 (some 5) (h:=?_)
  refine wpAnyH_done (by kernel_rfl) ?_ _
  have fcI:(x.fields.length:Int)≤9223372036854775807:=by omega
  replace hL:=Lib.hid (hL.out.next (Below.drew (Below.refl _ _)) hbl)
  replace hT:=Keep.drew hT
  have HX:=hXX
  by_cases hn:0≤n∧n < x.fields.length
  ·obtain ⟨hn0,hn1⟩:=hn
   obtain ⟨j,rfl⟩:=Int.eq_ofNat_of_zero_le hn0
   have hj:j < x.fields.length:=by omega
   have hrn:Form.rng (j:Int) 0 x.fields.length=true:=by simp [Form.rng];omega
   obtain ⟨fb,fo,rfl,hfb,hfe⟩:=fel j hj
   have hfk2:Hid (Rform.fk f.classes (k:Int) (j:Int)=(x.fields[j]).kind):=by
    show _=_
    rw [hfk.out j];simp [hj]
   obtain ⟨t,ht⟩:=at_of hj
   rw [ht.out] at hfe hfk2
   obtain ⟨e1,_,okk,_⟩:=hfe
   have hXY:=Lib.hid (hXX.out _ rfl)
   rw [hrn,hfk2.out] at hXY
   have HRN:=Lib.hid hrn
   have hnI:(0:Int)≤(j:Int)∧(j:Int) < x.fields.length:=⟨by omega,by omega⟩
   have e4:=hT.cell (by omega) (by omega) e1
   clear hrn fel e1
   go_wp2_with fail
   refine (mustA (by first | rfl | simp) hL.out).mono ?_
   rintro e w2 ⟨rfl,hA,hK⟩
   replace e4:=hK.cell (lt_cell e4) (by omega) e4
   replace hL:=Lib.hid hA;clear hA;replace hT:=hT.trans (hK.mono hTs);replace hTs:=Nat.le_trans hTs hK.size;replace x0:=hK.cell (lt_cell x0) hne x0;replace x1:=hK.cell (lt_cell x1) hne x1;replace x2:=hK.cell (lt_cell x2) hne x2;replace x3:=hK.cell (lt_cell x3) hne x3;replace x4:=hK.cell (lt_cell x4) hne x4;replace x5:=hK.cell (lt_cell x5) hne x5;replace hbl:=hL.out.lt;clear hK
   simp only [Bool.and_true] at hL
   have z10:=hL.out.2.2.1
   go_wp2_with fail
   refine Drawn.hd (fun w'=>w'.cell? ⟨w.heap.size,4,none⟩=some (.int .i64 (j:Int))∧w'.cell? ⟨w.heap.size,1,none⟩=some (.int .i64 a)∧w'.cell? ⟨fb,fo+j*2,none⟩=some (.int .i64 t.kind)) (hS:=by (try dsimp only);first | exact ⟨x4,x1,e4⟩ | go_keep) (h:=fun hHeld=>?_)
   refine Drawn.T 0 (some 70) (h:=?_)
   refine Drawn.T 1 (some 71) (h:=?_)
   refine Drawn.T 2 (some 72) (h:=?_)
   refine Drawn.T 3 (some 73) (h:=?_)
   refine Drawn.T 4 (some 74) (h:=?_)
   refine Drawn.T 5 (some 75) (h:=?_)
   refine Drawn.T 6 (some 76) (h:=?_)
   refine Drawn.T 7 (some 77) (h:=?_)
   refine Drawn.T 8 (some 78) (h:=?_)
   have hl4:=lt_cell e4
   have hlx:=lt_cell x4
   refine Drawn.cl 9 (fun K hK=>?_)
   go_simp
   refine Drawn.bk hK (h:=fun hHeld=>?_)
   clear hK K
   refine Drawn.cl 10 (fun K hK=>?_)
   go_simp
   with_reducible refine (reg1D (by first | rfl | simp) hL.out okk hr).mono ?_
   rintro e w3 ⟨rfl,hA,hK5⟩
   replace e4:=hK5.cell (lt_cell e4) (by omega) e4
   replace hL:=Lib.hid hA;clear hA;replace hT:=hT.trans (hK5.mono hTs);replace hTs:=Nat.le_trans hTs hK5.size;replace x0:=hK5.cell (lt_cell x0) hne x0;replace x1:=hK5.cell (lt_cell x1) hne x1;replace x2:=hK5.cell (lt_cell x2) hne x2;replace x3:=hK5.cell (lt_cell x3) hne x3;replace x4:=hK5.cell (lt_cell x4) hne x4;replace x5:=hK5.cell (lt_cell x5) hne x5;replace hbl:=hL.out.lt;clear hK5
   go_wp2_with fail
   refine Drawn.bk hK (hS:=by (try dsimp only);exact ⟨x4,x1,e4⟩) (h:=fun hHeld=>?_)
   clear hK K
   refine wpAnyH_done (by kernel_rfl) ?_ _
   go_wp2_with (first
   | (go_at_call 60;(first | (with_reducible refine (mustA (by first | rfl | simp) hL.out).mono ?_));rintro e w1 ⟨rfl,hA,hK⟩;replace hL:=Lib.hid hA;clear hA;replace hT:=hT.trans (hK.mono hTs);replace hTs:=Nat.le_trans hTs hK.size;replace x0:=hK.cell (lt_cell x0) hne x0;replace x1:=hK.cell (lt_cell x1) hne x1;replace x2:=hK.cell (lt_cell x2) hne x2;replace x3:=hK.cell (lt_cell x3) hne x3;replace x4:=hK.cell (lt_cell x4) hne x4;replace x5:=hK.cell (lt_cell x5) hne x5;replace hbl:=hL.out.lt;clear hK)
   | (go_at_call 61;(first | (with_reducible refine (reg1A (by first | rfl | simp) hL.out (by first | with_reducible assumption | (unfold Ok;omega)) hr).mono ?_) | (with_reducible refine (reg2A (by first | rfl | simp) hL.out (by first | with_reducible assumption | (unfold Ok;omega)) hr).mono ?_) | (with_reducible refine (reg3A (by first | rfl | simp) hL.out (by first | with_reducible assumption | (unfold Ok;omega)) hr).mono ?_));rintro e w1 ⟨rfl,hA,hK⟩;replace hL:=Lib.hid hA;clear hA;replace hT:=hT.trans (hK.mono hTs);replace hTs:=Nat.le_trans hTs hK.size;replace x0:=hK.cell (lt_cell x0) hne x0;replace x1:=hK.cell (lt_cell x1) hne x1;replace x2:=hK.cell (lt_cell x2) hne x2;replace x3:=hK.cell (lt_cell x3) hne x3;replace x4:=hK.cell (lt_cell x4) hne x4;replace x5:=hK.cell (lt_cell x5) hne x5;replace hbl:=hL.out.lt;clear hK)
   | (go_at_call 62;(first | (with_reducible refine (nought1A (by first | rfl | simp) hL.out).mono ?_) | (with_reducible refine (nought2A (by first | rfl | simp) hL.out).mono ?_));rintro e w1 ⟨rfl,hA,hK⟩;replace hL:=Lib.hid hA;clear hA;replace hT:=hT.trans (hK.mono hTs);replace hTs:=Nat.le_trans hTs hK.size;replace x0:=hK.cell (lt_cell x0) hne x0;replace x1:=hK.cell (lt_cell x1) hne x1;replace x2:=hK.cell (lt_cell x2) hne x2;replace x3:=hK.cell (lt_cell x3) hne x3;replace x4:=hK.cell (lt_cell x4) hne x4;replace x5:=hK.cell (lt_cell x5) hne x5;replace hbl:=hL.out.lt;clear hK)
   | (go_at_call 63;(first | (with_reducible refine (atA hL.out hd1 hd2).mono ?_));rintro e w1 ⟨rfl,hA,hK⟩;replace hL:=Lib.hid hA;clear hA;replace hT:=hT.trans (hK.mono hTs);replace hTs:=Nat.le_trans hTs hK.size;replace x0:=hK.cell (lt_cell x0) hne x0;replace x1:=hK.cell (lt_cell x1) hne x1;replace x2:=hK.cell (lt_cell x2) hne x2;replace x3:=hK.cell (lt_cell x3) hne x3;replace x4:=hK.cell (lt_cell x4) hne x4;replace x5:=hK.cell (lt_cell x5) hne x5;replace hbl:=hL.out.lt;clear hK)
   | (go_at_call 100;(first | (with_reducible refine (clsA hL.out hc1 hc2).mono ?_));rintro e w1 ⟨rfl,hA,hK⟩;replace hL:=Lib.hid hA;clear hA;replace hT:=hT.trans (hK.mono hTs);replace hTs:=Nat.le_trans hTs hK.size;replace x0:=hK.cell (lt_cell x0) hne x0;replace x1:=hK.cell (lt_cell x1) hne x1;replace x2:=hK.cell (lt_cell x2) hne x2;replace x3:=hK.cell (lt_cell x3) hne x3;replace x4:=hK.cell (lt_cell x4) hne x4;replace x5:=hK.cell (lt_cell x5) hne x5;replace hbl:=hL.out.lt;clear hK)
   | (go_at_call 30;refine (lin _ _ _ _).mono ?_;rintro e w1 ⟨rfl,rfl⟩))
   go_ret
   rw [hXY.out]
   exact got_eq hL.out hT (by simp)
  ·have hrn:Form.rng n 0 x.fields.length=false:=by simp [Form.rng];omega
   have hXY:=Lib.hid (hXX.out _ rfl)
   rw [hrn] at hXY
   by_cases hn0:0≤n
   ·have hn1:¬ n < (x.fields.length:Int):=by omega
    clear hn
    go_wp2_with fail
    refine (mustA (by first | rfl | simp) hL.out).mono ?_
    rintro e w2 ⟨rfl,hA,hK⟩
    replace hL:=Lib.hid hA;clear hA;replace hT:=hT.trans (hK.mono hTs);replace hTs:=Nat.le_trans hTs hK.size;replace x0:=hK.cell (lt_cell x0) hne x0;replace x1:=hK.cell (lt_cell x1) hne x1;replace x2:=hK.cell (lt_cell x2) hne x2;replace x3:=hK.cell (lt_cell x3) hne x3;replace x4:=hK.cell (lt_cell x4) hne x4;replace x5:=hK.cell (lt_cell x5) hne x5;replace hbl:=hL.out.lt;clear hK
    simp only [Bool.and_false] at hL
    have z10:=hL.out.2.2.1
    go_wp2_with (first
   | (go_at_call 60;(first | (with_reducible refine (mustA (by first | rfl | simp) hL.out).mono ?_));rintro e w1 ⟨rfl,hA,hK⟩;replace hL:=Lib.hid hA;clear hA;replace hT:=hT.trans (hK.mono hTs);replace hTs:=Nat.le_trans hTs hK.size;replace x0:=hK.cell (lt_cell x0) hne x0;replace x1:=hK.cell (lt_cell x1) hne x1;replace x2:=hK.cell (lt_cell x2) hne x2;replace x3:=hK.cell (lt_cell x3) hne x3;replace x4:=hK.cell (lt_cell x4) hne x4;replace x5:=hK.cell (lt_cell x5) hne x5;replace hbl:=hL.out.lt;clear hK)
   | (go_at_call 61;(first | (with_reducible refine (reg1A (by first | rfl | simp) hL.out (by first | with_reducible assumption | (unfold Ok;omega)) hr).mono ?_) | (with_reducible refine (reg2A (by first | rfl | simp) hL.out (by first | with_reducible assumption | (unfold Ok;omega)) hr).mono ?_) | (with_reducible refine (reg3A (by first | rfl | simp) hL.out (by first | with_reducible assumption | (unfold Ok;omega)) hr).mono ?_));rintro e w1 ⟨rfl,hA,hK⟩;replace hL:=Lib.hid hA;clear hA;replace hT:=hT.trans (hK.mono hTs);replace hTs:=Nat.le_trans hTs hK.size;replace x0:=hK.cell (lt_cell x0) hne x0;replace x1:=hK.cell (lt_cell x1) hne x1;replace x2:=hK.cell (lt_cell x2) hne x2;replace x3:=hK.cell (lt_cell x3) hne x3;replace x4:=hK.cell (lt_cell x4) hne x4;replace x5:=hK.cell (lt_cell x5) hne x5;replace hbl:=hL.out.lt;clear hK)
   | (go_at_call 62;(first | (with_reducible refine (nought1A (by first | rfl | simp) hL.out).mono ?_) | (with_reducible refine (nought2A (by first | rfl | simp) hL.out).mono ?_));rintro e w1 ⟨rfl,hA,hK⟩;replace hL:=Lib.hid hA;clear hA;replace hT:=hT.trans (hK.mono hTs);replace hTs:=Nat.le_trans hTs hK.size;replace x0:=hK.cell (lt_cell x0) hne x0;replace x1:=hK.cell (lt_cell x1) hne x1;replace x2:=hK.cell (lt_cell x2) hne x2;replace x3:=hK.cell (lt_cell x3) hne x3;replace x4:=hK.cell (lt_cell x4) hne x4;replace x5:=hK.cell (lt_cell x5) hne x5;replace hbl:=hL.out.lt;clear hK)
   | (go_at_call 63;(first | (with_reducible refine (atA hL.out hd1 hd2).mono ?_));rintro e w1 ⟨rfl,hA,hK⟩;replace hL:=Lib.hid hA;clear hA;replace hT:=hT.trans (hK.mono hTs);replace hTs:=Nat.le_trans hTs hK.size;replace x0:=hK.cell (lt_cell x0) hne x0;replace x1:=hK.cell (lt_cell x1) hne x1;replace x2:=hK.cell (lt_cell x2) hne x2;replace x3:=hK.cell (lt_cell x3) hne x3;replace x4:=hK.cell (lt_cell x4) hne x4;replace x5:=hK.cell (lt_cell x5) hne x5;replace hbl:=hL.out.lt;clear hK)
   | (go_at_call 100;(first | (with_reducible refine (clsA hL.out hc1 hc2).mono ?_));rintro e w1 ⟨rfl,hA,hK⟩;replace hL:=Lib.hid hA;clear hA;replace hT:=hT.trans (hK.mono hTs);replace hTs:=Nat.le_trans hTs hK.size;replace x0:=hK.cell (lt_cell x0) hne x0;replace x1:=hK.cell (lt_cell x1) hne x1;replace x2:=hK.cell (lt_cell x2) hne x2;replace x3:=hK.cell (lt_cell x3) hne x3;replace x4:=hK.cell (lt_cell x4) hne x4;replace x5:=hK.cell (lt_cell x5) hne x5;replace hbl:=hL.out.lt;clear hK)
   | (go_at_call 30;refine (lin _ _ _ _).mono ?_;rintro e w1 ⟨rfl,rfl⟩))
    go_ret
    rw [hXY.out]
    exact got_eq hL.out hT (by simp)
   ·clear hn
    go_wp2_with fail
    refine (mustA (by first | rfl | simp) hL.out).mono ?_
    rintro e w2 ⟨rfl,hA,hK⟩
    replace hL:=Lib.hid hA;clear hA;replace hT:=hT.trans (hK.mono hTs);replace hTs:=Nat.le_trans hTs hK.size;replace x0:=hK.cell (lt_cell x0) hne x0;replace x1:=hK.cell (lt_cell x1) hne x1;replace x2:=hK.cell (lt_cell x2) hne x2;replace x3:=hK.cell (lt_cell x3) hne x3;replace x4:=hK.cell (lt_cell x4) hne x4;replace x5:=hK.cell (lt_cell x5) hne x5;replace hbl:=hL.out.lt;clear hK
    simp only [Bool.and_false] at hL
    have z10:=hL.out.2.2.1
    go_wp2_with (first
   | (go_at_call 60;(first | (with_reducible refine (mustA (by first | rfl | simp) hL.out).mono ?_));rintro e w1 ⟨rfl,hA,hK⟩;replace hL:=Lib.hid hA;clear hA;replace hT:=hT.trans (hK.mono hTs);replace hTs:=Nat.le_trans hTs hK.size;replace x0:=hK.cell (lt_cell x0) hne x0;replace x1:=hK.cell (lt_cell x1) hne x1;replace x2:=hK.cell (lt_cell x2) hne x2;replace x3:=hK.cell (lt_cell x3) hne x3;replace x4:=hK.cell (lt_cell x4) hne x4;replace x5:=hK.cell (lt_cell x5) hne x5;replace hbl:=hL.out.lt;clear hK)
   | (go_at_call 61;(first | (with_reducible refine (reg1A (by first | rfl | simp) hL.out (by first | with_reducible assumption | (unfold Ok;omega)) hr).mono ?_) | (with_reducible refine (reg2A (by first | rfl | simp) hL.out (by first | with_reducible assumption | (unfold Ok;omega)) hr).mono ?_) | (with_reducible refine (reg3A (by first | rfl | simp) hL.out (by first | with_reducible assumption | (unfold Ok;omega)) hr).mono ?_));rintro e w1 ⟨rfl,hA,hK⟩;replace hL:=Lib.hid hA;clear hA;replace hT:=hT.trans (hK.mono hTs);replace hTs:=Nat.le_trans hTs hK.size;replace x0:=hK.cell (lt_cell x0) hne x0;replace x1:=hK.cell (lt_cell x1) hne x1;replace x2:=hK.cell (lt_cell x2) hne x2;replace x3:=hK.cell (lt_cell x3) hne x3;replace x4:=hK.cell (lt_cell x4) hne x4;replace x5:=hK.cell (lt_cell x5) hne x5;replace hbl:=hL.out.lt;clear hK)
   | (go_at_call 62;(first | (with_reducible refine (nought1A (by first | rfl | simp) hL.out).mono ?_) | (with_reducible refine (nought2A (by first | rfl | simp) hL.out).mono ?_));rintro e w1 ⟨rfl,hA,hK⟩;replace hL:=Lib.hid hA;clear hA;replace hT:=hT.trans (hK.mono hTs);replace hTs:=Nat.le_trans hTs hK.size;replace x0:=hK.cell (lt_cell x0) hne x0;replace x1:=hK.cell (lt_cell x1) hne x1;replace x2:=hK.cell (lt_cell x2) hne x2;replace x3:=hK.cell (lt_cell x3) hne x3;replace x4:=hK.cell (lt_cell x4) hne x4;replace x5:=hK.cell (lt_cell x5) hne x5;replace hbl:=hL.out.lt;clear hK)
   | (go_at_call 63;(first | (with_reducible refine (atA hL.out hd1 hd2).mono ?_));rintro e w1 ⟨rfl,hA,hK⟩;replace hL:=Lib.hid hA;clear hA;replace hT:=hT.trans (hK.mono hTs);replace hTs:=Nat.le_trans hTs hK.size;replace x0:=hK.cell (lt_cell x0) hne x0;replace x1:=hK.cell (lt_cell x1) hne x1;replace x2:=hK.cell (lt_cell x2) hne x2;replace x3:=hK.cell (lt_cell x3) hne x3;replace x4:=hK.cell (lt_cell x4) hne x4;replace x5:=hK.cell (lt_cell x5) hne x5;replace hbl:=hL.out.lt;clear hK)
   | (go_at_call 100;(first | (with_reducible refine (clsA hL.out hc1 hc2).mono ?_));rintro e w1 ⟨rfl,hA,hK⟩;replace hL:=Lib.hid hA;clear hA;replace hT:=hT.trans (hK.mono hTs);replace hTs:=Nat.le_trans hTs hK.size;replace x0:=hK.cell (lt_cell x0) hne x0;replace x1:=hK.cell (lt_cell x1) hne x1;replace x2:=hK.cell (lt_cell x2) hne x2;replace x3:=hK.cell (lt_cell x3) hne x3;replace x4:=hK.cell (lt_cell x4) hne x4;replace x5:=hK.cell (lt_cell x5) hne x5;replace hbl:=hL.out.lt;clear hK)
   | (go_at_call 30;refine (lin _ _ _ _).mono ?_;rintro e w1 ⟨rfl,rfl⟩))
    go_ret
    rw [hXY.out]
    exact got_eq hL.out hT (by simp)
set_option maxRecDepth 100000 in
theorem more15 (f:Fi) (m:Me) (a b c n:Int) (args:List Int) (ok:Bool) (lb:Nat) (ca:Option Addr) (ccap:Nat) (vm vp:Value) (da:Option Addr) (dcap:Nat) (vh:Value) (aa:Option Addr) (acap:Nat) (w:World)
  (h:Lk w lb (.slice ca f.classes.length ccap) vm vp (.slice da m.code.length dcap) vh m ok) (hF:Fit f m f.classes.length ccap dcap) (oks:Ok a∧Ok b∧Ok c∧Ok n) (ha:args.length≤acap∧acap≤9223372036854775807) (B0:Nat) (hB:B0≤lb) (hcl:Sl 2 ECls w B0 (.slice ca f.classes.length ccap) f.classes) :
  Calls Try.prog 64 #[.pointer (some ⟨lb,0,none⟩),.agg #[.int .i64 15,.int .i64 a,.int .i64 b,.int .i64 c,.int .i64 n,.slice aa args.length acap]] w
   (Got w lb (.slice ca f.classes.length ccap) vm vp (.slice da m.code.length dcap) vh m (moreX f m ok ⟨15,a,b,c,n,args⟩)):=by
 obtain ⟨hc1,hc2,hd1,hd2,hr⟩:=hF
 obtain ⟨oa,ob,oc,on⟩:=oks
 obtain ⟨ha1,ha2⟩:=ha
 obtain ⟨hr1,hr2⟩:=hr
 have hr:0≤m.regs∧m.regs≤90:=⟨hr1,hr2⟩
 have hlt:=h.lt
 have hne:w.heap.size≠lb:=by omega
 have hL:=Lib.hid (h.next (Below.alloc (Below.refl _ _) (Nat.le_refl _) (.cells #[.int .i64 15,.int .i64 a,.int .i64 b,.int .i64 c,.int .i64 n,.slice aa args.length acap] 79)) h.lt)
 have hT:Keep w.heap.size lb w (w.alloc (.cells #[.int .i64 15,.int .i64 a,.int .i64 b,.int .i64 c,.int .i64 n,.slice aa args.length acap] 79)):=Keep.alloc (Keep.refl _ _ _) (Nat.le_refl _) _
 have hTs:=hT.size
 have hbl:=hL.out.lt
 have x0:(w.alloc (.cells #[.int .i64 15,.int .i64 a,.int .i64 b,.int .i64 c,.int .i64 n,.slice aa args.length acap] 79)).cell? ⟨w.heap.size,0,none⟩=some (.int .i64 15):=by go_simp
 have x1:(w.alloc (.cells #[.int .i64 15,.int .i64 a,.int .i64 b,.int .i64 c,.int .i64 n,.slice aa args.length acap] 79)).cell? ⟨w.heap.size,1,none⟩=some (.int .i64 a):=by go_simp
 have x2:(w.alloc (.cells #[.int .i64 15,.int .i64 a,.int .i64 b,.int .i64 c,.int .i64 n,.slice aa args.length acap] 79)).cell? ⟨w.heap.size,2,none⟩=some (.int .i64 b):=by go_simp
 have x3:(w.alloc (.cells #[.int .i64 15,.int .i64 a,.int .i64 b,.int .i64 c,.int .i64 n,.slice aa args.length acap] 79)).cell? ⟨w.heap.size,3,none⟩=some (.int .i64 c):=by go_simp
 have x4:(w.alloc (.cells #[.int .i64 15,.int .i64 a,.int .i64 b,.int .i64 c,.int .i64 n,.slice aa args.length acap] 79)).cell? ⟨w.heap.size,4,none⟩=some (.int .i64 n):=by go_simp
 have x5:(w.alloc (.cells #[.int .i64 15,.int .i64 a,.int .i64 b,.int .i64 c,.int .i64 n,.slice aa args.length acap] 79)).cell? ⟨w.heap.size,5,none⟩=some (.slice aa args.length acap):=by go_simp
 clear h
 go_enter Try.func64,Try.ntmps64
 go_wp2_with fail
 refine (clsA hL.out hc1 hc2).mono ?_
 rintro e w1 ⟨rfl,hA,hK⟩
 replace hL:=Lib.hid hA;clear hA;replace hT:=hT.trans (hK.mono hTs);replace hTs:=Nat.le_trans hTs hK.size;replace x0:=hK.cell (lt_cell x0) hne x0;replace x1:=hK.cell (lt_cell x1) hne x1;replace x2:=hK.cell (lt_cell x2) hne x2;replace x3:=hK.cell (lt_cell x3) hne x3;replace x4:=hK.cell (lt_cell x4) hne x4;replace x5:=hK.cell (lt_cell x5) hne x5;replace hbl:=hL.out.lt;clear hK
 obtain ⟨q,hq⟩:∃ q,Hid ((ok && Form.rng c 0 f.classes.length)=q):=⟨_,rfl⟩
 rw [hq.out] at hL
 have z10:=hL.out.2.2.1
 cases q
 ·have hX:Hid (moreX f m ok ⟨15,a,b,c,n,args⟩=false):=by
   show _=_
   have h:=hq.out
   rw [Bool.and_eq_false_iff] at h
   rcases h with h | h <;> simp [moreX,Rform.body,h]
  go_wp2_with fail
  go_ret
  rw [hX.out]
  exact got_eq hL.out hT (by simp)
 ·have hq2:=hq.out
  rw [Bool.and_eq_true] at hq2
  obtain ⟨hok,hrc⟩:=hq2
  have hr2:0≤c∧c < f.classes.length:=by simpa [Form.rng] using hrc
  obtain ⟨k,rfl⟩:=Int.eq_ofNat_of_zero_le hr2.1
  have hk:k < f.classes.length:=by omega
  obtain ⟨ca',ccap',hca,_,_,cel⟩:=hcl
  injection hca with hca1 hca2 hca3
  subst hca1
  obtain ⟨b0,o0,rfl,hb0,he⟩:=cel k hk
  have hnf:Hid (Form.nf f.classes (k:Int)=(f.classes[k]).fields.length):=by
   show _=_
   rw [Form.nf,Int.toNat_natCast,Hier.at_eq hk]
  have hfk:Hid (∀ j:Nat,Rform.fk f.classes (k:Int) (j:Int)=((f.classes[k]).fields.getD j ⟨0,0⟩).kind):=by
   intro j
   rw [Rform.fk,Int.toNat_natCast,Int.toNat_natCast,Hier.at_eq hk]
  obtain ⟨x,hx⟩:=at_of hk
  rw [hx.out] at he hnf hfk
  obtain ⟨_,_,fv,g3,fa,fcap,rfl,flc,fcc,fel⟩:=he
  have hb0':b0 < w.heap.size:=by omega
  have g4:=hT.cell hb0' (by omega) g3
  have y0:=hL.out.1.1
  have hk0:(0:Int)≤(k:Int)∧(k:Int) < f.classes.length:=⟨by omega,by omega⟩
  have hXX:Hid (∀ p:Bool,p=(Form.rng n 0 x.fields.length && Rform.reg m.regs a (Rform.fk f.classes k n) && Rform.reg m.regs b 3)→moreX f m ok ⟨15,a,b,(k:Int),n,args⟩=p):=by
   intro p hp
   subst hp
   have h:=hnf.out
   simp [moreX,Rform.body,Rform.num,hok,hrc,h]
  clear cel hrc hr2 g3 hq hca2 hca3
  go_wp2_with fail
  refine Drawn.hd (fun w'=>w'.cell? ⟨lb,0,none⟩=some (.slice (some ⟨b0,o0,none⟩) f.classes.length ccap)∧w'.cell? ⟨w.heap.size,3,none⟩=some (.int .i64 (k:Int))∧w'.cell? ⟨b0,o0+k*2+1,none⟩=some (.slice fa x.fields.length fcap)) (hS:=by (try dsimp only);first | exact ⟨y0,x3,g4⟩ | go_keep) (h:=fun hHeld=>?_)
  refine Drawn.T 0 (some 43) (h:=?_)
  refine Drawn.T 1 (some 44) (h:=?_)
  refine Drawn.T 2 (some 45) (h:=?_)
  refine Drawn.T 3 (some 46) (h:=?_)
  refine Drawn.T 4 (some 47) (h:=?_)
  refine Drawn.T 5 (some 48) (h:=?_)
  refine Drawn.T 6 (some 49) (h:=?_)
  refine Drawn.T 7 (some 50) (h:=?_)
  refine Drawn.T 8 (some 51) (h:=?_)
  refine Drawn.T 9 (some 52) (h:=?_)
  refine Drawn.T 10 (some 5) (h:=?_)
  refine wpAnyH_done (by kernel_rfl) ?_ _
  have fcI:(x.fields.length:Int)≤9223372036854775807:=by omega
  replace hL:=Lib.hid (hL.out.next (Below.drew (Below.refl _ _)) hbl)
  replace hT:=Keep.drew hT
  have HX:=hXX
  by_cases hn:0≤n∧n < x.fields.length
  ·obtain ⟨hn0,hn1⟩:=hn
   obtain ⟨j,rfl⟩:=Int.eq_ofNat_of_zero_le hn0
   have hj:j < x.fields.length:=by omega
   have hrn:Form.rng (j:Int) 0 x.fields.length=true:=by simp [Form.rng];omega
   obtain ⟨fb,fo,rfl,hfb,hfe⟩:=fel j hj
   have hfk2:Hid (Rform.fk f.classes (k:Int) (j:Int)=(x.fields[j]).kind):=by
    show _=_
    rw [hfk.out j];simp [hj]
   obtain ⟨t,ht⟩:=at_of hj
   rw [ht.out] at hfe hfk2
   obtain ⟨e1,_,okk,_⟩:=hfe
   have hXY:=Lib.hid (hXX.out _ rfl)
   rw [hrn,hfk2.out] at hXY
   have HRN:=Lib.hid hrn
   have hnI:(0:Int)≤(j:Int)∧(j:Int) < x.fields.length:=⟨by omega,by omega⟩
   have e4:=hT.cell (by omega) (by omega) e1
   clear hrn fel e1
   go_wp2_with fail
   refine (mustA (by first | rfl | simp) hL.out).mono ?_
   rintro e w2 ⟨rfl,hA,hK⟩
   replace e4:=hK.cell (lt_cell e4) (by omega) e4
   replace hL:=Lib.hid hA;clear hA;replace hT:=hT.trans (hK.mono hTs);replace hTs:=Nat.le_trans hTs hK.size;replace x0:=hK.cell (lt_cell x0) hne x0;replace x1:=hK.cell (lt_cell x1) hne x1;replace x2:=hK.cell (lt_cell x2) hne x2;replace x3:=hK.cell (lt_cell x3) hne x3;replace x4:=hK.cell (lt_cell x4) hne x4;replace x5:=hK.cell (lt_cell x5) hne x5;replace hbl:=hL.out.lt;clear hK
   simp only [Bool.and_true] at hL
   have z10:=hL.out.2.2.1
   go_wp2_with fail
   refine Drawn.hd (fun w'=>w'.cell? ⟨w.heap.size,4,none⟩=some (.int .i64 (j:Int))∧w'.cell? ⟨w.heap.size,1,none⟩=some (.int .i64 a)∧w'.cell? ⟨fb,fo+j*2,none⟩=some (.int .i64 t.kind)) (hS:=by (try dsimp only);first | exact ⟨x4,x1,e4⟩ | go_keep) (h:=fun hHeld=>?_)
   refine Drawn.T 0 (some 70) (h:=?_)
   refine Drawn.T 1 (some 71) (h:=?_)
   refine Drawn.T 2 (some 72) (h:=?_)
   refine Drawn.T 3 (some 73) (h:=?_)
   refine Drawn.T 4 (some 74) (h:=?_)
   refine Drawn.T 5 (some 75) (h:=?_)
   refine Drawn.T 6 (some 76) (h:=?_)
   refine Drawn.T 7 (some 77) (h:=?_)
   refine Drawn.T 8 (some 78) (h:=?_)
   have hl4:=lt_cell e4
   have hlx:=lt_cell x4
   refine Drawn.cl 9 (fun K hK=>?_)
   go_simp
   refine Drawn.bk hK (h:=fun hHeld=>?_)
   clear hK K
   refine Drawn.cl 10 (fun K hK=>?_)
   go_simp
   with_reducible refine (reg1D (by first | rfl | simp) hL.out okk hr).mono ?_
   rintro e w3 ⟨rfl,hA,hK5⟩
   replace e4:=hK5.cell (lt_cell e4) (by omega) e4
   replace hL:=Lib.hid hA;clear hA;replace hT:=hT.trans (hK5.mono hTs);replace hTs:=Nat.le_trans hTs hK5.size;replace x0:=hK5.cell (lt_cell x0) hne x0;replace x1:=hK5.cell (lt_cell x1) hne x1;replace x2:=hK5.cell (lt_cell x2) hne x2;replace x3:=hK5.cell (lt_cell x3) hne x3;replace x4:=hK5.cell (lt_cell x4) hne x4;replace x5:=hK5.cell (lt_cell x5) hne x5;replace hbl:=hL.out.lt;clear hK5
   go_wp2_with fail
   refine Drawn.bk hK (hS:=by (try dsimp only);exact ⟨x4,x1,e4⟩) (h:=fun hHeld=>?_)
   clear hK K
   refine wpAnyH_done (by kernel_rfl) ?_ _
   go_wp2_with (first
   | (go_at_call 60;(first | (with_reducible refine (mustA (by first | rfl | simp) hL.out).mono ?_));rintro e w1 ⟨rfl,hA,hK⟩;replace hL:=Lib.hid hA;clear hA;replace hT:=hT.trans (hK.mono hTs);replace hTs:=Nat.le_trans hTs hK.size;replace x0:=hK.cell (lt_cell x0) hne x0;replace x1:=hK.cell (lt_cell x1) hne x1;replace x2:=hK.cell (lt_cell x2) hne x2;replace x3:=hK.cell (lt_cell x3) hne x3;replace x4:=hK.cell (lt_cell x4) hne x4;replace x5:=hK.cell (lt_cell x5) hne x5;replace hbl:=hL.out.lt;clear hK)
   | (go_at_call 61;(first | (with_reducible refine (reg1A (by first | rfl | simp) hL.out (by first | with_reducible assumption | (unfold Ok;omega)) hr).mono ?_) | (with_reducible refine (reg2A (by first | rfl | simp) hL.out (by first | with_reducible assumption | (unfold Ok;omega)) hr).mono ?_) | (with_reducible refine (reg3A (by first | rfl | simp) hL.out (by first | with_reducible assumption | (unfold Ok;omega)) hr).mono ?_));rintro e w1 ⟨rfl,hA,hK⟩;replace hL:=Lib.hid hA;clear hA;replace hT:=hT.trans (hK.mono hTs);replace hTs:=Nat.le_trans hTs hK.size;replace x0:=hK.cell (lt_cell x0) hne x0;replace x1:=hK.cell (lt_cell x1) hne x1;replace x2:=hK.cell (lt_cell x2) hne x2;replace x3:=hK.cell (lt_cell x3) hne x3;replace x4:=hK.cell (lt_cell x4) hne x4;replace x5:=hK.cell (lt_cell x5) hne x5;replace hbl:=hL.out.lt;clear hK)
   | (go_at_call 62;(first | (with_reducible refine (nought1A (by first | rfl | simp) hL.out).mono ?_) | (with_reducible refine (nought2A (by first | rfl | simp) hL.out).mono ?_));rintro e w1 ⟨rfl,hA,hK⟩;replace hL:=Lib.hid hA;clear hA;replace hT:=hT.trans (hK.mono hTs);replace hTs:=Nat.le_trans hTs hK.size;replace x0:=hK.cell (lt_cell x0) hne x0;replace x1:=hK.cell (lt_cell x1) hne x1;replace x2:=hK.cell (lt_cell x2) hne x2;replace x3:=hK.cell (lt_cell x3) hne x3;replace x4:=hK.cell (lt_cell x4) hne x4;replace x5:=hK.cell (lt_cell x5) hne x5;replace hbl:=hL.out.lt;clear hK)
   | (go_at_call 63;(first | (with_reducible refine (atA hL.out hd1 hd2).mono ?_));rintro e w1 ⟨rfl,hA,hK⟩;replace hL:=Lib.hid hA;clear hA;replace hT:=hT.trans (hK.mono hTs);replace hTs:=Nat.le_trans hTs hK.size;replace x0:=hK.cell (lt_cell x0) hne x0;replace x1:=hK.cell (lt_cell x1) hne x1;replace x2:=hK.cell (lt_cell x2) hne x2;replace x3:=hK.cell (lt_cell x3) hne x3;replace x4:=hK.cell (lt_cell x4) hne x4;replace x5:=hK.cell (lt_cell x5) hne x5;replace hbl:=hL.out.lt;clear hK)
   | (go_at_call 100;(first | (with_reducible refine (clsA hL.out hc1 hc2).mono ?_));rintro e w1 ⟨rfl,hA,hK⟩;replace hL:=Lib.hid hA;clear hA;replace hT:=hT.trans (hK.mono hTs);replace hTs:=Nat.le_trans hTs hK.size;replace x0:=hK.cell (lt_cell x0) hne x0;replace x1:=hK.cell (lt_cell x1) hne x1;replace x2:=hK.cell (lt_cell x2) hne x2;replace x3:=hK.cell (lt_cell x3) hne x3;replace x4:=hK.cell (lt_cell x4) hne x4;replace x5:=hK.cell (lt_cell x5) hne x5;replace hbl:=hL.out.lt;clear hK)
   | (go_at_call 30;refine (lin _ _ _ _).mono ?_;rintro e w1 ⟨rfl,rfl⟩))
   go_ret
   rw [hXY.out]
   exact got_eq hL.out hT (by simp)
  ·have hrn:Form.rng n 0 x.fields.length=false:=by simp [Form.rng];omega
   have hXY:=Lib.hid (hXX.out _ rfl)
   rw [hrn] at hXY
   by_cases hn0:0≤n
   ·have hn1:¬ n < (x.fields.length:Int):=by omega
    clear hn
    go_wp2_with fail
    refine (mustA (by first | rfl | simp) hL.out).mono ?_
    rintro e w2 ⟨rfl,hA,hK⟩
    replace hL:=Lib.hid hA;clear hA;replace hT:=hT.trans (hK.mono hTs);replace hTs:=Nat.le_trans hTs hK.size;replace x0:=hK.cell (lt_cell x0) hne x0;replace x1:=hK.cell (lt_cell x1) hne x1;replace x2:=hK.cell (lt_cell x2) hne x2;replace x3:=hK.cell (lt_cell x3) hne x3;replace x4:=hK.cell (lt_cell x4) hne x4;replace x5:=hK.cell (lt_cell x5) hne x5;replace hbl:=hL.out.lt;clear hK
    simp only [Bool.and_false] at hL
    have z10:=hL.out.2.2.1
    go_wp2_with (first
   | (go_at_call 60;(first | (with_reducible refine (mustA (by first | rfl | simp) hL.out).mono ?_));rintro e w1 ⟨rfl,hA,hK⟩;replace hL:=Lib.hid hA;clear hA;replace hT:=hT.trans (hK.mono hTs);replace hTs:=Nat.le_trans hTs hK.size;replace x0:=hK.cell (lt_cell x0) hne x0;replace x1:=hK.cell (lt_cell x1) hne x1;replace x2:=hK.cell (lt_cell x2) hne x2;replace x3:=hK.cell (lt_cell x3) hne x3;replace x4:=hK.cell (lt_cell x4) hne x4;replace x5:=hK.cell (lt_cell x5) hne x5;replace hbl:=hL.out.lt;clear hK)
   | (go_at_call 61;(first | (with_reducible refine (reg1A (by first | rfl | simp) hL.out (by first | with_reducible assumption | (unfold Ok;omega)) hr).mono ?_) | (with_reducible refine (reg2A (by first | rfl | simp) hL.out (by first | with_reducible assumption | (unfold Ok;omega)) hr).mono ?_) | (with_reducible refine (reg3A (by first | rfl | simp) hL.out (by first | with_reducible assumption | (unfold Ok;omega)) hr).mono ?_));rintro e w1 ⟨rfl,hA,hK⟩;replace hL:=Lib.hid hA;clear hA;replace hT:=hT.trans (hK.mono hTs);replace hTs:=Nat.le_trans hTs hK.size;replace x0:=hK.cell (lt_cell x0) hne x0;replace x1:=hK.cell (lt_cell x1) hne x1;replace x2:=hK.cell (lt_cell x2) hne x2;replace x3:=hK.cell (lt_cell x3) hne x3;replace x4:=hK.cell (lt_cell x4) hne x4;replace x5:=hK.cell (lt_cell x5) hne x5;replace hbl:=hL.out.lt;clear hK)
   | (go_at_call 62;(first | (with_reducible refine (nought1A (by first | rfl | simp) hL.out).mono ?_) | (with_reducible refine (nought2A (by first | rfl | simp) hL.out).mono ?_));rintro e w1 ⟨rfl,hA,hK⟩;replace hL:=Lib.hid hA;clear hA;replace hT:=hT.trans (hK.mono hTs);replace hTs:=Nat.le_trans hTs hK.size;replace x0:=hK.cell (lt_cell x0) hne x0;replace x1:=hK.cell (lt_cell x1) hne x1;replace x2:=hK.cell (lt_cell x2) hne x2;replace x3:=hK.cell (lt_cell x3) hne x3;replace x4:=hK.cell (lt_cell x4) hne x4;replace x5:=hK.cell (lt_cell x5) hne x5;replace hbl:=hL.out.lt;clear hK)
   | (go_at_call 63;(first | (with_reducible refine (atA hL.out hd1 hd2).mono ?_));rintro e w1 ⟨rfl,hA,hK⟩;replace hL:=Lib.hid hA;clear hA;replace hT:=hT.trans (hK.mono hTs);replace hTs:=Nat.le_trans hTs hK.size;replace x0:=hK.cell (lt_cell x0) hne x0;replace x1:=hK.cell (lt_cell x1) hne x1;replace x2:=hK.cell (lt_cell x2) hne x2;replace x3:=hK.cell (lt_cell x3) hne x3;replace x4:=hK.cell (lt_cell x4) hne x4;replace x5:=hK.cell (lt_cell x5) hne x5;replace hbl:=hL.out.lt;clear hK)
   | (go_at_call 100;(first | (with_reducible refine (clsA hL.out hc1 hc2).mono ?_));rintro e w1 ⟨rfl,hA,hK⟩;replace hL:=Lib.hid hA;clear hA;replace hT:=hT.trans (hK.mono hTs);replace hTs:=Nat.le_trans hTs hK.size;replace x0:=hK.cell (lt_cell x0) hne x0;replace x1:=hK.cell (lt_cell x1) hne x1;replace x2:=hK.cell (lt_cell x2) hne x2;replace x3:=hK.cell (lt_cell x3) hne x3;replace x4:=hK.cell (lt_cell x4) hne x4;replace x5:=hK.cell (lt_cell x5) hne x5;replace hbl:=hL.out.lt;clear hK)
   | (go_at_call 30;refine (lin _ _ _ _).mono ?_;rintro e w1 ⟨rfl,rfl⟩))
    go_ret
    rw [hXY.out]
    exact got_eq hL.out hT (by simp)
   ·clear hn
    go_wp2_with fail
    refine (mustA (by first | rfl | simp) hL.out).mono ?_
    rintro e w2 ⟨rfl,hA,hK⟩
    replace hL:=Lib.hid hA;clear hA;replace hT:=hT.trans (hK.mono hTs);replace hTs:=Nat.le_trans hTs hK.size;replace x0:=hK.cell (lt_cell x0) hne x0;replace x1:=hK.cell (lt_cell x1) hne x1;replace x2:=hK.cell (lt_cell x2) hne x2;replace x3:=hK.cell (lt_cell x3) hne x3;replace x4:=hK.cell (lt_cell x4) hne x4;replace x5:=hK.cell (lt_cell x5) hne x5;replace hbl:=hL.out.lt;clear hK
    simp only [Bool.and_false] at hL
    have z10:=hL.out.2.2.1
    go_wp2_with (first
   | (go_at_call 60;(first | (with_reducible refine (mustA (by first | rfl | simp) hL.out).mono ?_));rintro e w1 ⟨rfl,hA,hK⟩;replace hL:=Lib.hid hA;clear hA;replace hT:=hT.trans (hK.mono hTs);replace hTs:=Nat.le_trans hTs hK.size;replace x0:=hK.cell (lt_cell x0) hne x0;replace x1:=hK.cell (lt_cell x1) hne x1;replace x2:=hK.cell (lt_cell x2) hne x2;replace x3:=hK.cell (lt_cell x3) hne x3;replace x4:=hK.cell (lt_cell x4) hne x4;replace x5:=hK.cell (lt_cell x5) hne x5;replace hbl:=hL.out.lt;clear hK)
   | (go_at_call 61;(first | (with_reducible refine (reg1A (by first | rfl | simp) hL.out (by first | with_reducible assumption | (unfold Ok;omega)) hr).mono ?_) | (with_reducible refine (reg2A (by first | rfl | simp) hL.out (by first | with_reducible assumption | (unfold Ok;omega)) hr).mono ?_) | (with_reducible refine (reg3A (by first | rfl | simp) hL.out (by first | with_reducible assumption | (unfold Ok;omega)) hr).mono ?_));rintro e w1 ⟨rfl,hA,hK⟩;replace hL:=Lib.hid hA;clear hA;replace hT:=hT.trans (hK.mono hTs);replace hTs:=Nat.le_trans hTs hK.size;replace x0:=hK.cell (lt_cell x0) hne x0;replace x1:=hK.cell (lt_cell x1) hne x1;replace x2:=hK.cell (lt_cell x2) hne x2;replace x3:=hK.cell (lt_cell x3) hne x3;replace x4:=hK.cell (lt_cell x4) hne x4;replace x5:=hK.cell (lt_cell x5) hne x5;replace hbl:=hL.out.lt;clear hK)
   | (go_at_call 62;(first | (with_reducible refine (nought1A (by first | rfl | simp) hL.out).mono ?_) | (with_reducible refine (nought2A (by first | rfl | simp) hL.out).mono ?_));rintro e w1 ⟨rfl,hA,hK⟩;replace hL:=Lib.hid hA;clear hA;replace hT:=hT.trans (hK.mono hTs);replace hTs:=Nat.le_trans hTs hK.size;replace x0:=hK.cell (lt_cell x0) hne x0;replace x1:=hK.cell (lt_cell x1) hne x1;replace x2:=hK.cell (lt_cell x2) hne x2;replace x3:=hK.cell (lt_cell x3) hne x3;replace x4:=hK.cell (lt_cell x4) hne x4;replace x5:=hK.cell (lt_cell x5) hne x5;replace hbl:=hL.out.lt;clear hK)
   | (go_at_call 63;(first | (with_reducible refine (atA hL.out hd1 hd2).mono ?_));rintro e w1 ⟨rfl,hA,hK⟩;replace hL:=Lib.hid hA;clear hA;replace hT:=hT.trans (hK.mono hTs);replace hTs:=Nat.le_trans hTs hK.size;replace x0:=hK.cell (lt_cell x0) hne x0;replace x1:=hK.cell (lt_cell x1) hne x1;replace x2:=hK.cell (lt_cell x2) hne x2;replace x3:=hK.cell (lt_cell x3) hne x3;replace x4:=hK.cell (lt_cell x4) hne x4;replace x5:=hK.cell (lt_cell x5) hne x5;replace hbl:=hL.out.lt;clear hK)
   | (go_at_call 100;(first | (with_reducible refine (clsA hL.out hc1 hc2).mono ?_));rintro e w1 ⟨rfl,hA,hK⟩;replace hL:=Lib.hid hA;clear hA;replace hT:=hT.trans (hK.mono hTs);replace hTs:=Nat.le_trans hTs hK.size;replace x0:=hK.cell (lt_cell x0) hne x0;replace x1:=hK.cell (lt_cell x1) hne x1;replace x2:=hK.cell (lt_cell x2) hne x2;replace x3:=hK.cell (lt_cell x3) hne x3;replace x4:=hK.cell (lt_cell x4) hne x4;replace x5:=hK.cell (lt_cell x5) hne x5;replace hbl:=hL.out.lt;clear hK)
   | (go_at_call 30;refine (lin _ _ _ _).mono ?_;rintro e w1 ⟨rfl,rfl⟩))
    go_ret
    rw [hXY.out]
    exact got_eq hL.out hT (by simp)
end Look
namespace Look
open Num Rd D HierW FormW
set_option maxRecDepth 100000 in
theorem more20 (f:Fi) (m:Me) (a b c n:Int) (args:List Int) (ok:Bool) (lb:Nat) (ca:Option Addr) (ccap:Nat) (vm vp:Value) (da:Option Addr) (dcap:Nat) (vh:Value) (aa:Option Addr) (acap:Nat) (w:World)
  (h:Lk w lb (.slice ca f.classes.length ccap) vm vp (.slice da m.code.length dcap) vh m ok) (hF:Fit f m f.classes.length ccap dcap) (oks:Ok a∧Ok b∧Ok c∧Ok n) (ha:args.length≤acap∧acap≤9223372036854775807) (okk:Ok m.ret.kind) :
  Calls Try.prog 64 #[.pointer (some ⟨lb,0,none⟩),.agg #[.int .i64 20,.int .i64 a,.int .i64 b,.int .i64 c,.int .i64 n,.slice aa args.length acap]] w
   (Got w lb (.slice ca f.classes.length ccap) vm vp (.slice da m.code.length dcap) vh m (moreX f m ok ⟨20,a,b,c,n,args⟩)):=by
 obtain ⟨hc1,hc2,hd1,hd2,hr⟩:=hF
 obtain ⟨oa,ob,oc,on⟩:=oks
 obtain ⟨ha1,ha2⟩:=ha
 obtain ⟨hr1,hr2⟩:=hr
 have hr:0≤m.regs∧m.regs≤90:=⟨hr1,hr2⟩
 have hlt:=h.lt
 have hne:w.heap.size≠lb:=by omega
 have hL:=Lib.hid (h.next (Below.alloc (Below.refl _ _) (Nat.le_refl _) (.cells #[.int .i64 20,.int .i64 a,.int .i64 b,.int .i64 c,.int .i64 n,.slice aa args.length acap] 79)) h.lt)
 have hT:Keep w.heap.size lb w (w.alloc (.cells #[.int .i64 20,.int .i64 a,.int .i64 b,.int .i64 c,.int .i64 n,.slice aa args.length acap] 79)):=Keep.alloc (Keep.refl _ _ _) (Nat.le_refl _) _
 have hTs:=hT.size
 have hbl:=hL.out.lt
 have x0:(w.alloc (.cells #[.int .i64 20,.int .i64 a,.int .i64 b,.int .i64 c,.int .i64 n,.slice aa args.length acap] 79)).cell? ⟨w.heap.size,0,none⟩=some (.int .i64 20):=by go_simp
 have x1:(w.alloc (.cells #[.int .i64 20,.int .i64 a,.int .i64 b,.int .i64 c,.int .i64 n,.slice aa args.length acap] 79)).cell? ⟨w.heap.size,1,none⟩=some (.int .i64 a):=by go_simp
 have x2:(w.alloc (.cells #[.int .i64 20,.int .i64 a,.int .i64 b,.int .i64 c,.int .i64 n,.slice aa args.length acap] 79)).cell? ⟨w.heap.size,2,none⟩=some (.int .i64 b):=by go_simp
 have x3:(w.alloc (.cells #[.int .i64 20,.int .i64 a,.int .i64 b,.int .i64 c,.int .i64 n,.slice aa args.length acap] 79)).cell? ⟨w.heap.size,3,none⟩=some (.int .i64 c):=by go_simp
 have x4:(w.alloc (.cells #[.int .i64 20,.int .i64 a,.int .i64 b,.int .i64 c,.int .i64 n,.slice aa args.length acap] 79)).cell? ⟨w.heap.size,4,none⟩=some (.int .i64 n):=by go_simp
 have x5:(w.alloc (.cells #[.int .i64 20,.int .i64 a,.int .i64 b,.int .i64 c,.int .i64 n,.slice aa args.length acap] 79)).cell? ⟨w.heap.size,5,none⟩=some (.slice aa args.length acap):=by go_simp
 clear h
 obtain ⟨rk,hrk⟩:∃ rk,Hid (m.ret.kind=rk):=⟨_,rfl⟩
 rw [hrk.out] at okk
 have hX:Hid (moreX f m ok ⟨20,a,b,c,n,args⟩=(ok && ((decide (b=0) && decide (c=0) && (if rk=0 then decide (a=0) else Rform.reg m.regs a rk)) && decide (n=0)))):=by
  show _=_
  rw [← hrk.out];simp [moreX,Rform.body,Rform.num]
 go_enter Try.func64,Try.ntmps64
 go_wp2_with fail
 refine (nought2A (by first | rfl | simp) hL.out).mono ?_
 rintro e w1 ⟨rfl,hA,hK⟩
 replace hL:=Lib.hid hA;clear hA;replace hT:=hT.trans (hK.mono hTs);replace hTs:=Nat.le_trans hTs hK.size;replace x0:=hK.cell (lt_cell x0) hne x0;replace x1:=hK.cell (lt_cell x1) hne x1;replace x2:=hK.cell (lt_cell x2) hne x2;replace x3:=hK.cell (lt_cell x3) hne x3;replace x4:=hK.cell (lt_cell x4) hne x4;replace x5:=hK.cell (lt_cell x5) hne x5;replace hbl:=hL.out.lt;clear hK
 have y3:=hL.out.2.1.2.1
 rw [hrk.out] at y3
 by_cases hz:rk=0
 ·subst hz
  go_wp2_with (first
   | (go_at_call 60;(first | (with_reducible refine (mustA (by first | rfl | simp) hL.out).mono ?_));rintro e w1 ⟨rfl,hA,hK⟩;replace hL:=Lib.hid hA;clear hA;replace hT:=hT.trans (hK.mono hTs);replace hTs:=Nat.le_trans hTs hK.size;replace x0:=hK.cell (lt_cell x0) hne x0;replace x1:=hK.cell (lt_cell x1) hne x1;replace x2:=hK.cell (lt_cell x2) hne x2;replace x3:=hK.cell (lt_cell x3) hne x3;replace x4:=hK.cell (lt_cell x4) hne x4;replace x5:=hK.cell (lt_cell x5) hne x5;replace hbl:=hL.out.lt;clear hK)
   | (go_at_call 61;(first | (with_reducible refine (reg1A (by first | rfl | simp) hL.out (by first | with_reducible assumption | (unfold Ok;omega)) hr).mono ?_) | (with_reducible refine (reg2A (by first | rfl | simp) hL.out (by first | with_reducible assumption | (unfold Ok;omega)) hr).mono ?_) | (with_reducible refine (reg3A (by first | rfl | simp) hL.out (by first | with_reducible assumption | (unfold Ok;omega)) hr).mono ?_));rintro e w1 ⟨rfl,hA,hK⟩;replace hL:=Lib.hid hA;clear hA;replace hT:=hT.trans (hK.mono hTs);replace hTs:=Nat.le_trans hTs hK.size;replace x0:=hK.cell (lt_cell x0) hne x0;replace x1:=hK.cell (lt_cell x1) hne x1;replace x2:=hK.cell (lt_cell x2) hne x2;replace x3:=hK.cell (lt_cell x3) hne x3;replace x4:=hK.cell (lt_cell x4) hne x4;replace x5:=hK.cell (lt_cell x5) hne x5;replace hbl:=hL.out.lt;clear hK)
   | (go_at_call 62;(first | (with_reducible refine (nought1A (by first | rfl | simp) hL.out).mono ?_) | (with_reducible refine (nought2A (by first | rfl | simp) hL.out).mono ?_));rintro e w1 ⟨rfl,hA,hK⟩;replace hL:=Lib.hid hA;clear hA;replace hT:=hT.trans (hK.mono hTs);replace hTs:=Nat.le_trans hTs hK.size;replace x0:=hK.cell (lt_cell x0) hne x0;replace x1:=hK.cell (lt_cell x1) hne x1;replace x2:=hK.cell (lt_cell x2) hne x2;replace x3:=hK.cell (lt_cell x3) hne x3;replace x4:=hK.cell (lt_cell x4) hne x4;replace x5:=hK.cell (lt_cell x5) hne x5;replace hbl:=hL.out.lt;clear hK)
   | (go_at_call 63;(first | (with_reducible refine (atA hL.out hd1 hd2).mono ?_));rintro e w1 ⟨rfl,hA,hK⟩;replace hL:=Lib.hid hA;clear hA;replace hT:=hT.trans (hK.mono hTs);replace hTs:=Nat.le_trans hTs hK.size;replace x0:=hK.cell (lt_cell x0) hne x0;replace x1:=hK.cell (lt_cell x1) hne x1;replace x2:=hK.cell (lt_cell x2) hne x2;replace x3:=hK.cell (lt_cell x3) hne x3;replace x4:=hK.cell (lt_cell x4) hne x4;replace x5:=hK.cell (lt_cell x5) hne x5;replace hbl:=hL.out.lt;clear hK)
   | (go_at_call 100;(first | (with_reducible refine (clsA hL.out hc1 hc2).mono ?_));rintro e w1 ⟨rfl,hA,hK⟩;replace hL:=Lib.hid hA;clear hA;replace hT:=hT.trans (hK.mono hTs);replace hTs:=Nat.le_trans hTs hK.size;replace x0:=hK.cell (lt_cell x0) hne x0;replace x1:=hK.cell (lt_cell x1) hne x1;replace x2:=hK.cell (lt_cell x2) hne x2;replace x3:=hK.cell (lt_cell x3) hne x3;replace x4:=hK.cell (lt_cell x4) hne x4;replace x5:=hK.cell (lt_cell x5) hne x5;replace hbl:=hL.out.lt;clear hK)
   | (go_at_call 30;refine (lin _ _ _ _).mono ?_;rintro e w1 ⟨rfl,rfl⟩))
  go_ret
  rw [hX.out]
  refine got_eq hL.out hT ?_
  (try simp)
  first | done | ac_rfl | grind
 ·have hz':(rk==0)=false:=by simpa using hz
  have HX:=Lib.hid (hX.out.trans (by rw [if_neg hz]))
  clear hX hz
  go_wp2_with fail
  refine Drawn.hd (fun w'=>w'.cell? ⟨lb,3,none⟩=some (.int .i64 rk)∧w'.cell? ⟨w.heap.size,1,none⟩=some (.int .i64 a)) (hS:=by (try dsimp only);first | exact ⟨y3,x1⟩ | go_keep) (h:=fun hHeld=>?_)
  refine Drawn.T 0 (some 227) (h:=?_)
  refine Drawn.T 1 (some 228) (h:=?_)
  refine Drawn.T 2 (some 229) (h:=?_)
  refine Drawn.T 3 (some 230) (h:=?_)
  refine Drawn.T 4 (some 231) (h:=?_)
  refine Drawn.T 5 (some 232) (h:=?_)
  refine Drawn.T 6 (some 233) (h:=?_)
  refine Drawn.T 7 (some 234) (h:=?_)
  refine Drawn.T 8 (some 235) (h:=?_)
  have hlx:=lt_cell x1
  refine Drawn.cl 9 (fun K hK=>?_)
  go_simp
  refine Drawn.bk hK (h:=fun hHeld=>?_)
  clear hK K
  refine Drawn.cl 10 (fun K hK=>?_)
  go_simp
  with_reducible refine (reg1D (by first | rfl | simp) hL.out okk hr).mono ?_
  rintro e w3 ⟨rfl,hA,hK5⟩
  replace hL:=Lib.hid hA;clear hA;replace hT:=hT.trans (hK5.mono hTs);replace hTs:=Nat.le_trans hTs hK5.size;replace x0:=hK5.cell (lt_cell x0) hne x0;replace x1:=hK5.cell (lt_cell x1) hne x1;replace x2:=hK5.cell (lt_cell x2) hne x2;replace x3:=hK5.cell (lt_cell x3) hne x3;replace x4:=hK5.cell (lt_cell x4) hne x4;replace x5:=hK5.cell (lt_cell x5) hne x5;replace hbl:=hL.out.lt;clear hK5
  have y3:=hL.out.2.1.2.1
  rw [hrk.out] at y3
  go_wp2_with fail
  refine Drawn.bk hK (hS:=by (try dsimp only);exact ⟨y3,x1⟩) (h:=fun hHeld=>?_)
  clear hK K
  refine wpAnyH_done (by kernel_rfl) ?_ _
  go_wp2_with (first
   | (go_at_call 60;(first | (with_reducible refine (mustA (by first | rfl | simp) hL.out).mono ?_));rintro e w1 ⟨rfl,hA,hK⟩;replace hL:=Lib.hid hA;clear hA;replace hT:=hT.trans (hK.mono hTs);replace hTs:=Nat.le_trans hTs hK.size;replace x0:=hK.cell (lt_cell x0) hne x0;replace x1:=hK.cell (lt_cell x1) hne x1;replace x2:=hK.cell (lt_cell x2) hne x2;replace x3:=hK.cell (lt_cell x3) hne x3;replace x4:=hK.cell (lt_cell x4) hne x4;replace x5:=hK.cell (lt_cell x5) hne x5;replace hbl:=hL.out.lt;clear hK)
   | (go_at_call 61;(first | (with_reducible refine (reg1A (by first | rfl | simp) hL.out (by first | with_reducible assumption | (unfold Ok;omega)) hr).mono ?_) | (with_reducible refine (reg2A (by first | rfl | simp) hL.out (by first | with_reducible assumption | (unfold Ok;omega)) hr).mono ?_) | (with_reducible refine (reg3A (by first | rfl | simp) hL.out (by first | with_reducible assumption | (unfold Ok;omega)) hr).mono ?_));rintro e w1 ⟨rfl,hA,hK⟩;replace hL:=Lib.hid hA;clear hA;replace hT:=hT.trans (hK.mono hTs);replace hTs:=Nat.le_trans hTs hK.size;replace x0:=hK.cell (lt_cell x0) hne x0;replace x1:=hK.cell (lt_cell x1) hne x1;replace x2:=hK.cell (lt_cell x2) hne x2;replace x3:=hK.cell (lt_cell x3) hne x3;replace x4:=hK.cell (lt_cell x4) hne x4;replace x5:=hK.cell (lt_cell x5) hne x5;replace hbl:=hL.out.lt;clear hK)
   | (go_at_call 62;(first | (with_reducible refine (nought1A (by first | rfl | simp) hL.out).mono ?_) | (with_reducible refine (nought2A (by first | rfl | simp) hL.out).mono ?_));rintro e w1 ⟨rfl,hA,hK⟩;replace hL:=Lib.hid hA;clear hA;replace hT:=hT.trans (hK.mono hTs);replace hTs:=Nat.le_trans hTs hK.size;replace x0:=hK.cell (lt_cell x0) hne x0;replace x1:=hK.cell (lt_cell x1) hne x1;replace x2:=hK.cell (lt_cell x2) hne x2;replace x3:=hK.cell (lt_cell x3) hne x3;replace x4:=hK.cell (lt_cell x4) hne x4;replace x5:=hK.cell (lt_cell x5) hne x5;replace hbl:=hL.out.lt;clear hK)
   | (go_at_call 63;(first | (with_reducible refine (atA hL.out hd1 hd2).mono ?_));rintro e w1 ⟨rfl,hA,hK⟩;replace hL:=Lib.hid hA;clear hA;replace hT:=hT.trans (hK.mono hTs);replace hTs:=Nat.le_trans hTs hK.size;replace x0:=hK.cell (lt_cell x0) hne x0;replace x1:=hK.cell (lt_cell x1) hne x1;replace x2:=hK.cell (lt_cell x2) hne x2;replace x3:=hK.cell (lt_cell x3) hne x3;replace x4:=hK.cell (lt_cell x4) hne x4;replace x5:=hK.cell (lt_cell x5) hne x5;replace hbl:=hL.out.lt;clear hK)
   | (go_at_call 100;(first | (with_reducible refine (clsA hL.out hc1 hc2).mono ?_));rintro e w1 ⟨rfl,hA,hK⟩;replace hL:=Lib.hid hA;clear hA;replace hT:=hT.trans (hK.mono hTs);replace hTs:=Nat.le_trans hTs hK.size;replace x0:=hK.cell (lt_cell x0) hne x0;replace x1:=hK.cell (lt_cell x1) hne x1;replace x2:=hK.cell (lt_cell x2) hne x2;replace x3:=hK.cell (lt_cell x3) hne x3;replace x4:=hK.cell (lt_cell x4) hne x4;replace x5:=hK.cell (lt_cell x5) hne x5;replace hbl:=hL.out.lt;clear hK)
   | (go_at_call 30;refine (lin _ _ _ _).mono ?_;rintro e w1 ⟨rfl,rfl⟩))
  go_ret
  rw [HX.out]
  refine got_eq hL.out hT ?_
  (try simp)
  first | done | ac_rfl | grind
def allTo (regs:Int) (ps:List Ty) (xs:List Int) (k:Nat):Bool:=(List.range k).all fun k=>Rform.reg regs (xs.getD k 0) (ps.getD k ⟨0,0⟩).kind
theorem allTo_succ (regs:Int) (ps:List Ty) (xs:List Int) (k:Nat):allTo regs ps xs (k+1)=(allTo regs ps xs k && Rform.reg regs (xs.getD k 0) (ps.getD k ⟨0,0⟩).kind):=by
 simp [allTo,List.range_succ]
set_option maxRecDepth 100000 in
theorem more18 (f:Fi) (m:Me) (a b c n:Int) (args:List Int) (ok:Bool) (lb:Nat) (ca:Option Addr) (ccap:Nat) (vm vp:Value) (da:Option Addr) (dcap:Nat) (vh:Value) (aa:Option Addr) (acap:Nat) (w:World)
  (h:Lk w lb (.slice ca f.classes.length ccap) vm vp (.slice da m.code.length dcap) vh m ok) (hF:Fit f m f.classes.length ccap dcap) (oks:Ok a∧Ok b∧Ok c∧Ok n) (ha:args.length≤acap∧acap≤9223372036854775807) (B0:Nat) (hB:B0≤lb) (hms:Sl 8 EMe w B0 vm f.methods) (hargs:Sl 1 EInt w B0 (.slice aa args.length acap) args) :
  Calls Try.prog 64 #[.pointer (some ⟨lb,0,none⟩),.agg #[.int .i64 18,.int .i64 a,.int .i64 b,.int .i64 c,.int .i64 n,.slice aa args.length acap]] w
   (Got w lb (.slice ca f.classes.length ccap) vm vp (.slice da m.code.length dcap) vh m (moreX f m ok ⟨18,a,b,c,n,args⟩)):=by
 obtain ⟨hc1,hc2,hd1,hd2,hr⟩:=hF
 obtain ⟨oa,ob,oc,on⟩:=oks
 obtain ⟨ha1,ha2⟩:=ha
 obtain ⟨hr1,hr2⟩:=hr
 have hr:0≤m.regs∧m.regs≤90:=⟨hr1,hr2⟩
 have hlt:=h.lt
 have hne:w.heap.size≠lb:=by omega
 have hL:=Lib.hid (h.next (Below.alloc (Below.refl _ _) (Nat.le_refl _) (.cells #[.int .i64 18,.int .i64 a,.int .i64 b,.int .i64 c,.int .i64 n,.slice aa args.length acap] 79)) h.lt)
 have hT:Keep w.heap.size lb w (w.alloc (.cells #[.int .i64 18,.int .i64 a,.int .i64 b,.int .i64 c,.int .i64 n,.slice aa args.length acap] 79)):=Keep.alloc (Keep.refl _ _ _) (Nat.le_refl _) _
 have hTs:=hT.size
 have hbl:=hL.out.lt
 have x0:(w.alloc (.cells #[.int .i64 18,.int .i64 a,.int .i64 b,.int .i64 c,.int .i64 n,.slice aa args.length acap] 79)).cell? ⟨w.heap.size,0,none⟩=some (.int .i64 18):=by go_simp
 have x1:(w.alloc (.cells #[.int .i64 18,.int .i64 a,.int .i64 b,.int .i64 c,.int .i64 n,.slice aa args.length acap] 79)).cell? ⟨w.heap.size,1,none⟩=some (.int .i64 a):=by go_simp
 have x2:(w.alloc (.cells #[.int .i64 18,.int .i64 a,.int .i64 b,.int .i64 c,.int .i64 n,.slice aa args.length acap] 79)).cell? ⟨w.heap.size,2,none⟩=some (.int .i64 b):=by go_simp
 have x3:(w.alloc (.cells #[.int .i64 18,.int .i64 a,.int .i64 b,.int .i64 c,.int .i64 n,.slice aa args.length acap] 79)).cell? ⟨w.heap.size,3,none⟩=some (.int .i64 c):=by go_simp
 have x4:(w.alloc (.cells #[.int .i64 18,.int .i64 a,.int .i64 b,.int .i64 c,.int .i64 n,.slice aa args.length acap] 79)).cell? ⟨w.heap.size,4,none⟩=some (.int .i64 n):=by go_simp
 have x5:(w.alloc (.cells #[.int .i64 18,.int .i64 a,.int .i64 b,.int .i64 c,.int .i64 n,.slice aa args.length acap] 79)).cell? ⟨w.heap.size,5,none⟩=some (.slice aa args.length acap):=by go_simp
 clear h
 obtain ⟨ma,mcap,rfl,mlc,mcc,mel⟩:=hms
 go_enter Try.func64,Try.ntmps64
 go_wp2_with fail
 have y1:=hL.out.1.2
 have hlx:=lt_cell x1
 refine Drawn.hd (fun w'=>w'.cell? ⟨lb,1,none⟩=some (.slice ma f.methods.length mcap)∧w'.cell? ⟨w.heap.size,1,none⟩=some (.int .i64 a)) (hS:=by (try dsimp only);first | exact ⟨y1,x1⟩ | go_keep) (h:=fun hHeld=>?_)
 refine Drawn.T 0 (some 101) (h:=?_)
 refine Drawn.T 1 (some 102) (h:=?_)
 refine Drawn.T 2 (some 103) (h:=?_)
 refine Drawn.T 3 (some 104) (h:=?_)
 refine Drawn.T 4 (some 105) (h:=?_)
 refine Drawn.T 5 (some 106) (h:=?_)
 refine Drawn.T 6 (some 107) (h:=?_)
 refine Drawn.T 7 (some 108) (h:=?_)
 refine Drawn.T 8 (some 109) (h:=?_)
 refine Drawn.cl 9 (fun K hK=>?_)
 go_simp
 go_at_call 30
 refine (lin _ _ _ _).mono ?_
 rintro e w2 ⟨rfl,rfl⟩
 go_wp2_with fail
 refine Drawn.bk hK (hS:=by (try dsimp only);exact ⟨y1,x1⟩) (h:=fun hHeld=>?_)
 clear hK K
 refine Drawn.cl 10 (fun K hK=>?_)
 go_simp
 refine Drawn.bk hK (h:=fun hHeld=>?_)
 clear hK K
 refine Drawn.cl 11 (fun K hK=>?_)
 go_simp
 with_reducible refine (mustD (by first | rfl | simp) hL.out).mono ?_
 rintro e w3 ⟨rfl,hA,hK5⟩
 replace hL:=Lib.hid hA;clear hA;replace hT:=hT.trans (hK5.mono hTs);replace hTs:=Nat.le_trans hTs hK5.size;replace x0:=hK5.cell (lt_cell x0) hne x0;replace x1:=hK5.cell (lt_cell x1) hne x1;replace x2:=hK5.cell (lt_cell x2) hne x2;replace x3:=hK5.cell (lt_cell x3) hne x3;replace x4:=hK5.cell (lt_cell x4) hne x4;replace x5:=hK5.cell (lt_cell x5) hne x5;replace hbl:=hL.out.lt;clear hK5
 replace y1:=hL.out.1.2
 go_wp2_with fail
 refine Drawn.bk hK (hS:=by (try dsimp only);exact ⟨y1,x1⟩) (h:=fun hHeld=>?_)
 clear hK K
 refine wpAnyH_done (by kernel_rfl) ?_ _
 obtain ⟨q,hq⟩:∃ q,Hid ((ok && Form.rng a 0 f.methods.length)=q):=⟨_,rfl⟩
 rw [hq.out] at hL
 have z10:=hL.out.2.2.1
 cases q
 ·have hX:Hid (moreX f m ok ⟨18,a,b,c,n,args⟩=false):=by
   show _=_
   have h:=hq.out
   rw [Bool.and_eq_false_iff] at h
   rcases h with h | h <;> simp [moreX,Rform.body,h]
  go_wp2_with fail
  go_ret
  rw [hX.out]
  exact got_eq hL.out hT (by simp)
 ·have hq2:=hq.out
  rw [Bool.and_eq_true] at hq2
  obtain ⟨hok,hrc⟩:=hq2
  have hr2:0≤a∧a < f.methods.length:=by simpa [Form.rng] using hrc
  obtain ⟨k,rfl⟩:=Int.eq_ofNat_of_zero_le hr2.1
  have hk:k < f.methods.length:=by omega
  obtain ⟨b0,o0,rfl,hb0,he⟩:=mel k hk
  have hmp:Hid (Rform.mAt f.methods (k:Int)=(f.methods[k]).params):=by
   show _=_
   simp [Rform.mAt,hk]
  obtain ⟨x,hx⟩:=at_of hk
  rw [hx.out] at he hmp
  obtain ⟨vp',_,_,g3,_,_,_,_,_,_,_,_,hps,_,_⟩:=he
  obtain ⟨pa,pcap,rfl,plc,pcc,pel⟩:=hps
  have g4:=hT.cell (by omega) (by omega) g3
  have hk0:(0:Int)≤(k:Int)∧(k:Int) < f.methods.length:=⟨by omega,by omega⟩
  have hXX:Hid (moreX f m ok ⟨18,(k:Int),b,c,n,args⟩=((decide (args.length=x.params.length) && allTo m.regs x.params args x.params.length && decide (b=0) && decide (c=0)) && decide (n=0))):=by
   show _=_
   have h:=hmp.out
   simp [moreX,Rform.body,Rform.num,hok,hrc,h,Rform.regsOk,allTo]
  clear mel hrc hr2 g3 hq
  go_wp2_with fail
  refine Drawn.hd (fun w'=>w'.cell? ⟨lb,1,none⟩=some (.slice (some ⟨b0,o0,none⟩) f.methods.length mcap)∧w'.cell? ⟨w.heap.size,1,none⟩=some (.int .i64 (k:Int))∧w'.cell? ⟨b0,o0+k*8,none⟩=some (.slice pa x.params.length pcap)) (hS:=by (try dsimp only);first | exact ⟨y1,x1,g4⟩ | go_keep) (h:=fun hHeld=>?_)
  refine Drawn.T 0 (some 118) (h:=?_)
  refine Drawn.T 1 (some 119) (h:=?_)
  refine Drawn.T 2 (some 120) (h:=?_)
  refine Drawn.T 3 (some 121) (h:=?_)
  refine Drawn.T 4 (some 122) (h:=?_)
  refine Drawn.T 5 (some 123) (h:=?_)
  refine Drawn.T 6 (some 124) (h:=?_)
  refine Drawn.T 7 (some 125) (h:=?_)
  refine Drawn.T 8 (some 126) (h:=?_)
  refine Drawn.T 9 (some 127) (h:=?_)
  refine Drawn.T 10 (some 6) (h:=?_)
  refine wpAnyH_done (by kernel_rfl) ?_ _
  replace hL:=Lib.hid (hL.out.next (Below.drew (Below.refl _ _)) hbl)
  replace hT:=Keep.drew hT
  go_wp2_with fail
  refine (mustA (by first | rfl | simp) hL.out).mono ?_
  rintro e w4 ⟨rfl,hA,hK⟩
  replace hL:=Lib.hid hA;clear hA;replace hT:=hT.trans (hK.mono hTs);replace hTs:=Nat.le_trans hTs hK.size;replace x0:=hK.cell (lt_cell x0) hne x0;replace x1:=hK.cell (lt_cell x1) hne x1;replace x2:=hK.cell (lt_cell x2) hne x2;replace x3:=hK.cell (lt_cell x3) hne x3;replace x4:=hK.cell (lt_cell x4) hne x4;replace x5:=hK.cell (lt_cell x5) hne x5;replace hbl:=hL.out.lt;clear hK
  have eq1:Hid ((true && ((args.length:Int)==(x.params.length:Int)))=decide (args.length=x.params.length)):=by
   show _=_
   rw [Bool.eq_iff_iff];simp;omega
  rw [eq1.out] at hL
  obtain ⟨q0,hq0⟩:∃ q0,Hid (decide (args.length=x.params.length)=q0):=⟨_,rfl⟩
  rw [hq0.out] at hL hXX
  obtain ⟨aa',acap',haa,_,_,ael⟩:=hargs
  injection haa with haa1 haa2 haa3
  subst haa1
  clear haa2 haa3
  have hT1:=Lib.hid hT
  have hTs1:=hTs
  go_wp2_with fail
  go_loopw [139] (fun i wr=>∃ j:Nat,j≤x.params.length∧i=.int .i64 j∧Hid (Lk wr lb (.slice ca f.classes.length ccap) (.slice (some ⟨b0,o0,none⟩) f.methods.length mcap) vp (.slice da m.code.length dcap) vh m (q0 && allTo m.regs x.params args j))∧Keep w4.heap.size lb w4 wr) (fun i _=>x.params.length - (intOf i).toNat)
  case atStart=>exact ⟨0,by omega,rfl,by show Lk _ _ _ _ _ _ _ _ _;simpa [allTo] using hL.out,Keep.refl _ _ _⟩
  case round =>
   obtain ⟨j,hj,rfl,hlk,hkp⟩:=hrel
   have hks:=hkp.size
   have hlx4:=lt_cell x4
   have r5:=hkp.cell hlx4 hne x5
   have r4:=hkp.cell hlx4 hne x4
   have r3:=hkp.cell hlx4 hne x3
   have r2:=hkp.cell hlx4 hne x2
   have r1:=hkp.cell hlx4 hne x1
   have r0:=hkp.cell hlx4 hne x0
   have hkw:Keep w.heap.size lb w wr:=hT.trans (hkp.mono hTs)
   have hbr:=hlk.out.lt
   by_cases hlt2:j < x.params.length
   ·obtain ⟨fb,fo,rfl,hfb,hfe⟩:=pel j hlt2
    have hst:=Lib.hid (allTo_succ m.regs x.params args j)
    have hgd:Hid (x.params.getD j ⟨0,0⟩=x.params[j]):=by
     show _=_
     simp [hlt2]
    obtain ⟨t,ht⟩:=at_of hlt2
    rw [ht.out] at hfe hgd
    rw [hgd.out] at hst
    obtain ⟨e1,e2,okk,_⟩:=hfe
    have p1:=hkw.cell (by omega) (by omega) e1
    have p2:=hkw.cell (by omega) (by omega) e2
    have hI:(j:Int) < x.params.length:=by omega
    have hI0:(0:Int)≤(j:Int):=by omega
    obtain ⟨qq,hqq⟩:∃ qq,Hid ((q0 && allTo m.regs x.params args j)=qq):=⟨_,rfl⟩
    rw [hqq.out] at hlk
    have z10:=hlk.out.2.2.1
    clear pel e1 e2
    cases qq
    ·go_wp2_with fail
     go_roundw
     case rel =>
      refine ⟨j+1,by omega,by go_num,?_,hkp.trans (Keep.alloc (Keep.refl _ _ _) (by omega) _)⟩
      rw [hst.out,← Bool.and_assoc,hqq.out]
      exact (hlk.out.next (Below.alloc (Below.refl _ _) (Nat.le_refl _) _) hlk.out.lt)
     case measure=>simp [intOf];omega
    ·have hla:args.length=x.params.length:=by
      have h:=hqq.out
      rw [Bool.and_eq_true] at h
      have h2:=hq0.out
      rw [h.1] at h2
      simpa using h2
     have hjl:j < args.length:=by omega
     clear hla
     obtain ⟨ab,ao,rfl,hab,hae⟩:=ael j hjl
     have hga:Hid (args.getD j 0=args[j]):=by
      show _=_
      simp [hjl]
     obtain ⟨y,hy⟩:=at_of hjl
     rw [hy.out] at hae hga
     rw [hga.out] at hst
     have p3:=hkw.cell (by omega) (by omega) hae.1
     rw [Nat.mul_one] at p3
     have hI2:(0:Int)≤(j:Int)∧(j:Int) < args.length:=⟨by omega,by omega⟩
     have hl3:=lt_cell p3
     have hl5:=lt_cell r5
     clear ael hae
     go_wp2_with fail
     refine Drawn.hd (fun w'=>w'.cell? ⟨wr.heap.size,0,none⟩=some (.int .i64 t.kind)∧w'.cell? ⟨w.heap.size,5,none⟩=some (.slice (some ⟨ab,ao,none⟩) args.length acap)∧w'.cell? ⟨ab,ao+j,none⟩=some (.int .i64 y)) (hS:=by (try dsimp only);first | (refine ⟨?_,?_,?_⟩ <;> go_simp) | go_keep) (h:=fun hHeld=>?_)
     refine Drawn.T 0 (some 148) (h:=?_)
     refine Drawn.T 1 (some 149) (h:=?_)
     refine Drawn.T 2 (some 150) (h:=?_)
     refine Drawn.T 3 (some 151) (h:=?_)
     refine Drawn.T 4 (some 152) (h:=?_)
     refine Drawn.T 5 (some 153) (h:=?_)
     refine Drawn.T 6 (some 154) (h:=?_)
     refine Drawn.T 7 (some 155) (h:=?_)
     refine Drawn.cl 8 (fun K hK=>?_)
     go_simp
     refine Drawn.bk hK (h:=fun hHeld=>?_)
     clear hK K
     refine Drawn.cl 9 (fun K hK=>?_)
     go_simp
     with_reducible refine (reg1D (by first | rfl | simp) (hlk.out.next (Below.alloc (Below.refl _ _) (Nat.le_refl _) (.cells #[.int .i64 t.kind,.int .i64 t.cls] 52)) hlk.out.lt) okk hr).mono ?_
     rintro e w6 ⟨rfl,hA,hK5⟩
     have hA2:=Lib.hid hA
     clear hA
     have s1:w6.cell? ⟨wr.heap.size,0,none⟩=some (.int .i64 t.kind):=hK5.cell (by simp) (by omega) (by go_simp)
     have s2:w6.cell? ⟨w.heap.size,5,none⟩=some (.slice (some ⟨ab,ao,none⟩) args.length acap):=hK5.cell (by simp;omega) (by omega) (by go_simp)
     have s3:w6.cell? ⟨ab,ao+j,none⟩=some (.int .i64 y):=hK5.cell (by simp;omega) (by omega) (by go_simp)
     have hkk:Keep w4.heap.size lb w4 w6:=hkp.trans (Keep.trans (Keep.alloc (Keep.refl _ _ _) hks _) (hK5.mono (by simp;omega)))
     go_wp2_with fail
     refine Drawn.bk hK (hS:=by (try dsimp only);exact ⟨s1,s2,s3⟩) (h:=fun hHeld=>?_)
     clear hK K
     refine wpAnyH_done (by kernel_rfl) ?_ _
     go_wp2_with fail
     go_roundw
     case rel =>
      refine ⟨j+1,by omega,by go_num,?_,hkk⟩
      rw [hst.out,← Bool.and_assoc,hqq.out]
      exact hA2.out
     case measure=>simp [intOf];omega
   ·have hge:¬ (j:Int) < x.params.length:=by omega
    obtain rfl:j=x.params.length:=by omega
    have hL2:=hlk
    clear pel ael hlk
    replace hL:=hL2
    replace hT:=hkw
    replace hTs:=hkw.size
    replace hbl:=hbr
    replace x0:=r0
    replace x1:=r1
    replace x2:=r2
    replace x3:=r3
    replace x4:=r4
    replace x5:=r5
    go_wp2_with (first
   | (go_at_call 60;(first | (with_reducible refine (mustA (by first | rfl | simp) hL.out).mono ?_));rintro e w1 ⟨rfl,hA,hK⟩;replace hL:=Lib.hid hA;clear hA;replace hT:=hT.trans (hK.mono hTs);replace hTs:=Nat.le_trans hTs hK.size;replace x0:=hK.cell (lt_cell x0) hne x0;replace x1:=hK.cell (lt_cell x1) hne x1;replace x2:=hK.cell (lt_cell x2) hne x2;replace x3:=hK.cell (lt_cell x3) hne x3;replace x4:=hK.cell (lt_cell x4) hne x4;replace x5:=hK.cell (lt_cell x5) hne x5;replace hbl:=hL.out.lt;clear hK)
   | (go_at_call 61;(first | (with_reducible refine (reg1A (by first | rfl | simp) hL.out (by first | with_reducible assumption | (unfold Ok;omega)) hr).mono ?_) | (with_reducible refine (reg2A (by first | rfl | simp) hL.out (by first | with_reducible assumption | (unfold Ok;omega)) hr).mono ?_) | (with_reducible refine (reg3A (by first | rfl | simp) hL.out (by first | with_reducible assumption | (unfold Ok;omega)) hr).mono ?_));rintro e w1 ⟨rfl,hA,hK⟩;replace hL:=Lib.hid hA;clear hA;replace hT:=hT.trans (hK.mono hTs);replace hTs:=Nat.le_trans hTs hK.size;replace x0:=hK.cell (lt_cell x0) hne x0;replace x1:=hK.cell (lt_cell x1) hne x1;replace x2:=hK.cell (lt_cell x2) hne x2;replace x3:=hK.cell (lt_cell x3) hne x3;replace x4:=hK.cell (lt_cell x4) hne x4;replace x5:=hK.cell (lt_cell x5) hne x5;replace hbl:=hL.out.lt;clear hK)
   | (go_at_call 62;(first | (with_reducible refine (nought1A (by first | rfl | simp) hL.out).mono ?_) | (with_reducible refine (nought2A (by first | rfl | simp) hL.out).mono ?_));rintro e w1 ⟨rfl,hA,hK⟩;replace hL:=Lib.hid hA;clear hA;replace hT:=hT.trans (hK.mono hTs);replace hTs:=Nat.le_trans hTs hK.size;replace x0:=hK.cell (lt_cell x0) hne x0;replace x1:=hK.cell (lt_cell x1) hne x1;replace x2:=hK.cell (lt_cell x2) hne x2;replace x3:=hK.cell (lt_cell x3) hne x3;replace x4:=hK.cell (lt_cell x4) hne x4;replace x5:=hK.cell (lt_cell x5) hne x5;replace hbl:=hL.out.lt;clear hK)
   | (go_at_call 63;(first | (with_reducible refine (atA hL.out hd1 hd2).mono ?_));rintro e w1 ⟨rfl,hA,hK⟩;replace hL:=Lib.hid hA;clear hA;replace hT:=hT.trans (hK.mono hTs);replace hTs:=Nat.le_trans hTs hK.size;replace x0:=hK.cell (lt_cell x0) hne x0;replace x1:=hK.cell (lt_cell x1) hne x1;replace x2:=hK.cell (lt_cell x2) hne x2;replace x3:=hK.cell (lt_cell x3) hne x3;replace x4:=hK.cell (lt_cell x4) hne x4;replace x5:=hK.cell (lt_cell x5) hne x5;replace hbl:=hL.out.lt;clear hK)
   | (go_at_call 100;(first | (with_reducible refine (clsA hL.out hc1 hc2).mono ?_));rintro e w1 ⟨rfl,hA,hK⟩;replace hL:=Lib.hid hA;clear hA;replace hT:=hT.trans (hK.mono hTs);replace hTs:=Nat.le_trans hTs hK.size;replace x0:=hK.cell (lt_cell x0) hne x0;replace x1:=hK.cell (lt_cell x1) hne x1;replace x2:=hK.cell (lt_cell x2) hne x2;replace x3:=hK.cell (lt_cell x3) hne x3;replace x4:=hK.cell (lt_cell x4) hne x4;replace x5:=hK.cell (lt_cell x5) hne x5;replace hbl:=hL.out.lt;clear hK)
   | (go_at_call 30;refine (lin _ _ _ _).mono ?_;rintro e w1 ⟨rfl,rfl⟩))
    go_ret
    rw [hXX.out]
    refine got_eq hL.out hT ?_
    (try simp)
    first | done | ac_rfl | grind
end Look
end Go.Proofs.Ytncmhenfgbcihac
