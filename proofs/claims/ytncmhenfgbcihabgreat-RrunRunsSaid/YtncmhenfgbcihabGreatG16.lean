/- Parts of the proof: Gp, Qb, Qc, Ya, Yb, Yc, Yd. -/
import Derived.Test.YtncmhenfgbcihabGreatG15
import Derived.Test.YtncmhenfgbcihabGreatG11
import Derived.Test.YtncmhenfgbcihabGreatG09
import Derived.Defers
import Derived.Recover
import Derived.Laws.Pointers
import Derived.Laws.EntriesVeiled
set_option linter.unusedSimpArgs false
set_option linter.unusedVariables false
set_option maxHeartbeats 8000000
namespace Go.Proofs.YtncmhenfgbcihabGreat
open Go.RowKit
namespace Run
theorem size_app:∀ a b:List Vl,size (a++b)=size a+size b:=by
 intro a
 induction a with
 | nil=>intro b;simp [size]
 | cons v a ih=>intro b;simp only [List.cons_append,size,ih];omega
theorem size_takeP (l:List Vl) (k:Nat) (hk:k < l.length):size (l.take (k+1))=size (l.take k)+width l[k]:=by
 rw [List.take_succ_eq_append_getElem hk,size_app];simp [size]
end Run
namespace Hpw
open Num Rd D Run Mem HierW
section
variable {E:Ev}{w w' w0 w1 w2 W:World}{L L' L1:Lay}{h h' h1 h2:Hp}{d:Nat}{m:Me}
theorem row_low {w:World}{base b2 n size:Nat}{T:TypeId}{v:Value}{xs:List Value}(h:w.ownsRow base T size v n xs) (hb:b2≤base):w.ownsRow b2 T size v n xs:=by
 refine ⟨h.1,?_⟩
 rcases h.2 with e | ⟨g,cap,cur,e,hg,rest⟩
 ·exact .inl e
 ·exact .inr ⟨g,cap,cur,e,Nat.le_trans hb hg,rest⟩
theorem info_valP:(Tryz.prog.info? 46).map (fun i=>(i.zero,i.size,i.bytes))=some (some (.agg #[.int .i64 0,.int .i64 0]),2,16):=by kernel_rfl
def vl (v:Vl):Value:=.agg #[.int .i64 v.kind,.int .i64 v.n]
def hdV (r:Option Hd):Value:=match r with
 | some x=>.tuple #[.int .i64 x.go,.bool true]
 | none=>.tuple #[.int .i64 0,.bool false]
set_option maxRecDepth 100000 in
theorem caughtP {o:Nat}(H:PH E w L h d) (ho:o < h.objs.length) (hm:Hier.may E.f.classes=true){vp vc vh:Value}(m:Me) (hh:Sl 4 EHd w E.B vh m.handlers) (a:Nat) (r:Value) (hr:hdV (handler E.f.classes m a (obj h o).cls)=r) :
  Calls Tryz.prog 102 #[.pointer (some ⟨E.hb,0,none⟩),.agg #[vp,.int .i64 m.ret.kind,.int .i64 m.ret.cls,.int .i64 m.stack,.int .i64 m.locals,.int .i64 m.regs,vc,vh],.int .i64 a,.int .i64 o] w fun e w'=>e=.returned r∧Below w.heap.size w w':=by
 have HH:=Lib.hid H;have hhb:=H.hbw;have hB:=Lib.hid (show E.B≤w.heap.size by have:=H.base;omega)
 obtain ⟨g,cap,hvb,c1,c2,hg,hgne,o1,_⟩:=H.ob (n:=o) (by omega) (by omega)
 have b0:=H.c0;have b8:=H.c8;rw [hvb] at b8;obtain ⟨ca,ccap,hvc,_⟩:=id H.cls;have hC:Cs w E.vc E.f.classes:=H.cls.mono mCls (Below.refl _ _) (Nat.le_of_lt (Nat.lt_of_le_of_lt H.base.1 hhb));have HC:=Lib.hid hC;have hwf:=Lib.hid (Hier.wf_of_may hm);rw [hvc] at b0 HC;rw [Int.toNat_natCast] at o1;obtain ⟨ha,hcap,rfl,h1,h2,hel⟩:=hh;obtain ⟨cl,hcl⟩:∃ cl,Hid ((obj h o).cls=cl):=⟨_,Lib.hid rfl⟩;rw [hcl.out] at o1 hr;have hoi:(o:Int) < h.objs.length:=by omega
 replace hr:=Lib.hid hr;have hdrop:Hid (handler E.f.classes m a cl=(m.handlers.drop 0).find? fun x=>decide (x.lo≤(a:Int)) && decide ((a:Int) < x.hi) && Hier.is E.f.classes cl x.cls):=rfl;clear H hvb hvc hC
 go_enter Tryz.func102,Tryz.ntmps102
 go_wp2
 go_loopw [15] (fun i wr=>∃ n:Nat,i=.int .i64 n∧n≤m.handlers.length∧Below w.heap.size w wr∧w.heap.size < wr.heap.size∧Hid (handler E.f.classes m a cl=(m.handlers.drop n).find? fun x=>decide (x.lo≤(a:Int)) && decide ((a:Int) < x.hi) && Hier.is E.f.classes cl x.cls)) (fun i _=>m.handlers.length - (intOf i).toNat)
 case atStart=>exact ⟨0,rfl,Nat.zero_le _,by exact Rd.byB,by simp,hdrop⟩
 case round =>
  obtain ⟨n,rfl,hn,hb,hsz,hall⟩:=hrel;have hBW:=Lib.hid hb
  by_cases hlt:n < m.handlers.length
  ·obtain ⟨xb,xo,rfl,hxb,he⟩:=hel n hlt;obtain ⟨x,hx⟩:=at_of hlt;rw [hx.out] at he;obtain ⟨x0,x1,x2,x3,_⟩:=he;have hlx:xb < w.heap.size:=Nat.lt_of_lt_of_le hxb hB.out;have x0':=kept hb hlx x0;have x1':=kept hb hlx x1;have x2':=kept hb hlx x2;have x3':=kept hb hlx x3;have b0':=kept hb hhb b0;have b8':=kept hb hhb b8;have o1':=kept hb hg o1;have hni:(n:Int) < m.handlers.length:=by omega
   have hd:=Lib.hid (show m.handlers.drop n=x :: m.handlers.drop (n+1) from by rw [List.drop_eq_getElem_cons hlt,hx.out])
   obtain ⟨p,hp⟩:∃ p,Hid (Hier.is E.f.classes cl x.cls=p):=⟨_,Lib.hid rfl⟩;have hws:=hb.size;clear hel x0 x1 x2 x3 b0 b8 o1 hb;have hhb2:E.hb < wr.heap.size:=Nat.lt_of_lt_of_le hhb hBW.out.size;have hg2:g < wr.heap.size:=Nat.lt_of_lt_of_le hg hBW.out.size;obtain ⟨xlo,xhi,xgo,xcl⟩:=x;simp only at x0' x1' x2' x3' hp
   by_cases q1:xlo≤a
   ·have q1b:decide (xlo≤(a:Int))=true:=by simpa using q1
    by_cases q2:(a:Int) < xhi
    ·have q2b:decide ((a:Int) < xhi)=true:=by simpa using q2
     have HBA:Hid (Below w.heap.size w (wr.alloc (.cells #[.int .i64 xlo,.int .i64 xhi,.int .i64 xgo,.int .i64 xcl] 110))):=by
      have hb:=hBW.out
      show Below _ _ _
      exact Rd.byB
     go_wp2_with fail
     refine Drawn.hd (fun w'=>w'.cell? ⟨E.hb,0,none⟩=some (.slice ca E.f.classes.length ccap)∧w'.cell? ⟨E.hb,8,none⟩=some (.slice (some ⟨g,0,none⟩) h.objs.length cap)∧w'.cell? ⟨g,o*2,none⟩=some (.int .i64 cl)∧w'.cell? ⟨wr.heap.size,0,none⟩=some (.int .i64 xlo)∧w'.cell? ⟨wr.heap.size,1,none⟩=some (.int .i64 xhi)∧w'.cell? ⟨wr.heap.size,3,none⟩=some (.int .i64 xcl)) (h:=fun hHeld=>?_);refine dT 0 19 ?_;refine dT 1 20 ?_;refine dT 2 21 ?_;refine dT 3 22 ?_;refine dT 4 23 ?_;refine dT 5 24 ?_;refine dT 6 25 ?_;refine dT 7 26 ?_;refine dT 8 27 ?_;refine dT 9 28 ?_;refine dT 10 29 ?_;refine dT 11 30 ?_;refine dT 12 31 ?_;refine dT 13 32 ?_;refine dT 14 33 ?_;refine dT 15 34 ?_;refine dT 16 35 ?_;refine dT 17 36 ?_;refine dT 18 37 ?_;refine dT 19 38 ?_;refine dT 20 39 ?_;refine dT 21 40 ?_;refine dT 22 41 ?_;refine dT 23 42 ?_;refine dT 24 43 ?_;refine dT 25 44 ?_;refine Drawn.cl 26 (fun K hK=>?_);go_simp
     go_at_call 152
     refine (UpW.is _ E.f.classes cl xcl _ (HC.out.next (HBA.out.trans (by exact Rd.byB))) hwf.out).mono ?_
     rw [hp.out];rintro e w1 ⟨rfl,hb1⟩;have kk:∀ (b o:Nat) (u:Value),World.cell? _ ⟨b,o,none⟩=some u→w1.cell? ⟨b,o,none⟩=some u:=fun b o u hc=>kept hb1 (cell_lt hc) hc;have y0:=kk E.hb 0 (.slice ca E.f.classes.length ccap) (by go_simp)
     have y1:=kk E.hb 8 (.slice (some ⟨g,0,none⟩) h.objs.length cap) (by go_simp)
     have y2:=kk g (o*2) (.int .i64 cl) (by go_simp)
     have y3:=kk wr.heap.size 0 (.int .i64 xlo) (by go_simp)
     have y4:=kk wr.heap.size 1 (.int .i64 xhi) (by go_simp)
     have y5:=kk wr.heap.size 3 (.int .i64 xcl) (by go_simp)
     have y6:=kk wr.heap.size 2 (.int .i64 xgo) (by go_simp)
     have HB1:=Lib.hid (show Below w.heap.size w w1 from HBA.out.trans (Below.trans (by exact Rd.byB) (hb1.mono (by simp <;> omega))))
     have hz1:=hb1.size;have hz:w.heap.size < w1.heap.size:=by simp at hz1;omega
     clear kk hb1 hz1
     go_wp2_with fail
     refine Drawn.bk hK (hS:=by (try dsimp only);exact ⟨y0,y1,y2,y3,y4,y5⟩) (h:=fun hHeld=>?_)
     clear hK K;refine dT 27 46 ?_;refine dN ?_
     cases p
     ·have hnx:Hid (handler E.f.classes m a cl=(m.handlers.drop (n+1)).find? fun x=>decide (x.lo≤(a:Int)) && decide ((a:Int) < x.hi) && Hier.is E.f.classes cl x.cls):=by
       show _=_
       rw [hall.out,hd.out,List.find?_cons,hp.out];simp
      go_wp2
      go_roundw
      case rel=>exact ⟨n+1,by go_num,by omega,HB1.out,hz,hnx⟩
      case measure=>simp [intOf];omega
     ·have hnx:Hid (.tuple #[.int .i64 xgo,.bool true]=r):=by
       show _=_
       rw [← hr.out,hall.out,hd.out,List.find?_cons,hp.out];simp [q1,q2,hdV]
      go_wp2
      go_ret2
      exact ⟨by rw [← hnx.out];rfl,HB1.out⟩
    ·have q2b:decide ((a:Int) < xhi)=false:=by simpa using q2
     have hnx:Hid (handler E.f.classes m a cl=(m.handlers.drop (n+1)).find? fun x=>decide (x.lo≤(a:Int)) && decide ((a:Int) < x.hi) && Hier.is E.f.classes cl x.cls):=by
      show _=_
      rw [hall.out,hd.out,List.find?_cons];simp [q2]
     clear hp
     go_wp2
     go_quiet (fail)
     go_wp2
     have hb:=hBW.out
     go_roundw
     case rel=>exact ⟨n+1,by go_num,by omega,by exact Rd.byB,by simp;omega,hnx⟩
     case measure=>simp [intOf];omega
   ·have q1b:decide (xlo≤(a:Int))=false:=by simpa using q1
    have hnx:Hid (handler E.f.classes m a cl=(m.handlers.drop (n+1)).find? fun x=>decide (x.lo≤(a:Int)) && decide ((a:Int) < x.hi) && Hier.is E.f.classes cl x.cls):=by
     show _=_
     rw [hall.out,hd.out,List.find?_cons];simp [q1]
    clear hp
    go_wp2
    go_quiet (fail)
    go_wp2
    have hb:=hBW.out
    go_roundw
    case rel=>exact ⟨n+1,by go_num,by omega,by exact Rd.byB,by simp;omega,hnx⟩
    case measure=>simp [intOf];omega
  ·obtain rfl:n=m.handlers.length:=by omega
   have hnx:Hid (.tuple #[.int .i64 0,.bool false]=r):=by
    show _=_
    rw [← hr.out,hall.out,List.drop_length];rfl
   clear hb
   go_wp2
   go_ret2
   exact ⟨by rw [← hnx.out];rfl,hBW.out⟩
set_option maxRecDepth 100000 in
theorem assertT (o:Int) (w:World):(Instr.typeAssert (.iface 90 (.agg #[.int .i64 o])) 20 90 true).run Tryz.prog w=.ok (.tuple #[.agg #[.int .i64 o],.bool true]) w:=by kernel_rfl
set_option maxRecDepth 100000 in
theorem assertS (c:Int) (w:World):(Instr.typeAssert (.iface 88 (.agg #[.int .i64 c])) 20 90 true).run Tryz.prog w=.ok (.tuple #[.agg #[.int .i64 0],.bool false]) w:=by kernel_rfl
theorem tryIdle (p q:Addr) (w:World):CallsD Tryz.prog 153 #[.pointer (some p),.pointer (some q)] .returning w fun e u' w'=>e=.returned (.tuple #[])∧u'=.returning∧w'=w:=by
 refine callsD_of_wpS Tryz.func153 rfl fun c₀ cs hu=>?_
 apply wpS_seq
 apply wpS_region
 simp [wpOpsS,go_sem,recoverD,hu,Tryz.ntmps153,Exit.thenS];refine wpS_of_wp ?_
 go_wp2
 all_goals (cases c₀;simp_all [bodyPostS,results,Tryz.results153])
set_option maxRecDepth 100000 in
theorem tryThrown (n m:Nat) (o:Int) (hnm:n≠m) (older:List PanicEntry) (w:World) (h0:w.cell? ⟨n,0,none⟩=some (.int .i64 0)) (hf0:w.frozen? ⟨n,0,none⟩=false) (h1:w.cell? ⟨m,0,none⟩=some (.bool false)) (hf1:w.frozen? ⟨m,0,none⟩=false) :
  CallsD Tryz.prog 153 #[.pointer (some ⟨n,0,none⟩),.pointer (some ⟨m,0,none⟩)] (.panicking ({ v:=thrownV o,recovered:=false } :: older)) w fun e u' w' =>
   e=.returned (.tuple #[])∧u'=.panicking ({ v:=thrownV o,recovered:=true } :: older)∧w'=((w.setCell ⟨n,0,none⟩ (.int .i64 o)).setCell ⟨m,0,none⟩ (.bool true)).alloc (.cells #[.int .i64 o] 90):=by
 have hta:=assertT o;have hn:=cell_lt h0;have hm:=cell_lt h1;unfold thrownV;refine callsD_of_wpS Tryz.func153 rfl fun c₀ cs hu=>?_
 apply wpS_seq
 apply wpS_region
 simp [wpOpsS,go_sem,recoverD,hu,Tryz.ntmps153,Exit.thenS];rw [show (Array.replicate 16 undef:Array Value)=#[undef,undef,undef,undef,undef,undef,undef,undef,undef,undef,undef,undef,undef,undef,undef,undef] from rfl];simp only [List.setIfInBounds_toArray,List.set_cons_succ,List.set_cons_zero,List.append_toArray,List.cons_append,List.nil_append];refine wpS_of_wp ?_
 go_wp2
 simp [bodyPostS,results,Tryz.results153]
set_option maxRecDepth 100000 in
theorem tryStop (p q:Addr) (c:Int) (older:List PanicEntry) (w:World) :
  CallsD Tryz.prog 153 #[.pointer (some p),.pointer (some q)] (.panicking ({ v:=stopV c,recovered:=false } :: older)) w fun e u' w' =>
   e=.panicked [{ v:=stopV c,recovered:=false }]∧u'=.panicking ({ v:=stopV c,recovered:=true } :: older)∧w'=w.alloc (.cells #[.int .i64 0] 90):=by
 have hta:=assertS c;unfold stopV;refine callsD_of_wpS Tryz.func153 rfl fun c₀ cs hu=>?_
 apply wpS_seq
 apply wpS_region
 simp [wpOpsS,go_sem,recoverD,hu,Tryz.ntmps153,Exit.thenS];rw [show (Array.replicate 16 undef:Array Value)=#[undef,undef,undef,undef,undef,undef,undef,undef,undef,undef,undef,undef,undef,undef,undef,undef] from rfl];simp only [List.setIfInBounds_toArray,List.set_cons_succ,List.set_cons_zero,List.append_toArray,List.cons_append,List.nil_append];refine wpS_of_wp ?_
 go_wp2
 simp [bodyPostS,results,Tryz.results153]
theorem drop_all:∀ (l:List PanicEntry),(∀ x∈l,x.goexit=false)→l.dropWhile (fun x=>!x.goexit)=[]:=by
 intro l
 induction l with
 | nil=>intro _;rfl
 | cons x l ih =>
  intro h
  rw [List.dropWhile_cons,if_pos (by simp [h x (by simp)])]
  exact ih (fun y hy=>h y (by simp [hy]))
def InvR (E:Ev) (L:Lay) (d:Nat) (w:World) (r:Res Vl) (e:Ending) (w':World):Prop:=match r with
 | .ok v h=>e=.returned (vl v)∧Lft E L d w w' h
 | .thrown o h=>Pan (thrownV o) e∧Lft E L d w w' h
 | .stop c h=>Pan (stopV c) e∧Lft E L d w w' h
theorem vcells_repP:∀ n:Nat,vcells (List.replicate n Vl.nil)=List.replicate (n*2) (.int .i64 0):=by
 intro n
 induction n with
 | zero=>rfl
 | succ n ih=>rw [show (n+1)*2=n*2+1+1 by omega,List.replicate_succ,List.replicate_succ,List.replicate_succ,← ih];rfl
theorem mkSlots (n:Nat) (hn:n≤1000) (w:World):∃ w',(Instr.makeSlice 101 (.int .i64 (n:Int)) (.int .i64 (n:Int))).run Tryz.prog w=.ok (.slice (some ⟨w.heap.size,0,none⟩) n n) w'∧Blk w' w.heap.size (vcells (List.replicate n Vl.nil))∧Below w.heap.size w w'∧w.heap.size < w'.heap.size:=by
 obtain ⟨i,hi,hz,h1,h2⟩:=info_parts info_valP;obtain ⟨w',hrun,hown,hg⟩:=run_make_full (P:=Tryz.prog) (w:=w) w.heap.size 101 46 i (.agg #[.int .i64 0,.int .i64 0]) 2 Tryz.underlying101 hi hz h1 .i64 .i64 n (by rw [h2];omega) (by unfold maxLen;omega) (Nat.le_refl _)
 refine ⟨w',hrun,fun j hj=>?_,?_,(World.ownsRow.lt hown _ rfl).2⟩
 ·have hj2:(madeCells (Value.agg #[.int .i64 0,.int .i64 0]).cells (n*2)).toList[j]? = some ((vcells (List.replicate n Vl.nil))[j]):=by
   have hl:j < n*2:=by rw [vcells_len,List.length_replicate] at hj;exact hj
   have e2:(vcells (List.replicate n Vl.nil))[j]=.int .i64 0:=by
    have:=vcells_repP n
    simp only [this,List.getElem_replicate]
   rw [e2];have e3:(j % 2=0)∨(j % 2=1):=by omega
   rcases e3 with e3 | e3 <;> simp [madeCells,Value.cells,hl,e3]
  exact ⟨row_cell hown hj2,row_free hown⟩
 ·exact (Kp.of_grown (X:=fun _=>False) hg (fun k e=>by cases e)).below (Nat.le_refl _) (fun _ e=>e.elim)
theorem stores_app2:∀ (a b:List Vl) (l:List Vl) (k:Nat),stores l k (a++b)=stores (stores l k a) (k+size a) b:=by
 intro a
 induction a with
 | nil=>intro b l k;simp [stores,size]
 | cons v a ih=>intro b l k;simp only [List.cons_append,stores,size];rw [ih,Nat.add_assoc]
theorem stores_takeP {args:List Vl}{i:Nat}(hi:i < args.length) (l:List Vl):stores l 0 (args.take (i+1))=Run.store (stores l 0 (args.take i)) (size (args.take i)) args[i]:=by
 rw [List.take_succ_eq_append_getElem hi,stores_app2];simp [stores]
theorem size_take_leP {args:List Vl}(i:Nat):size (args.take i)≤size args:=by
 have:=size_app (args.take i) (args.drop i)
 rw [List.take_append_drop] at this;omega
theorem PH.deep (H:PH E w L h d) (d':Nat):PH E (w.setCell ⟨E.hb,10,none⟩ (.int .i64 d')) L h d':=H.set 10 (by omega) _ rfl rfl (by simp [cellsP])
theorem Lft.deep (A:Lft E L d w w1 h) (d':Nat):Lft E L d' w (w1.setCell ⟨E.hb,10,none⟩ (.int .i64 d')) h:=by
 obtain ⟨L1,K1,N1,H1⟩:=A;exact ⟨L1,K1.setCell (p:=⟨E.hb,10,none⟩) (.inl (.inl rfl)) _,N1,H1.deep d'⟩
theorem leaveP (b0:Nat) (u:FrameMode) (H:PH E w L h (d+1)) (hd:d≤1000) (c:w.cell? ⟨b0,0,none⟩=some (.pointer (some ⟨E.hb,0,none⟩))) :
  CallsD Tryz.prog 99 #[.pointer (some ⟨b0,0,none⟩)] u w fun e u' w'=>u'=u∧(e=.returned (.tuple #[])∧w'=w.setCell ⟨E.hb,10,none⟩ (.int .i64 d)):=by
 have c10:=H.c10;have f10:=H.fz 10 (by decide)
 have hhb:=H.hbw;have hw:IntKind.i64.wrap (((d+1:Nat):Int) - 1)=(d:Int):=by rw [show (((d+1:Nat):Int) - 1)=(d:Int) by omega,Num.wrap_i64,wrap64_id (by unfold Ok;omega)]
 have hw2:IntKind.i64.wrap ((d:Int)+1 - 1)=(d:Int):=by rw [show ((d:Int)+1 - 1)=(d:Int) by omega,Num.wrap_i64,wrap64_id (by unfold Ok;omega)]
 have hw3:wrap64 ((d:Int)+1 - 1)=(d:Int):=by rw [show ((d:Int)+1 - 1)=(d:Int) by omega];exact wrap64_id (by unfold Ok;omega)
 refine callsD_of_wp (R:=fun e w'=>e=.returned (.tuple #[])∧w'=w.setCell ⟨E.hb,10,none⟩ (.int .i64 d)) Tryz.func99 rfl ?_;rw [Tryz.ntmps99];rw [show (#[Value.pointer (some ⟨b0,0,none⟩)]++Array.replicate (8 - (#[Value.pointer (some ⟨b0,0,none⟩)]:Array Value).size) undef:Array Value)=#[Value.pointer (some ⟨b0,0,none⟩),undef,undef,undef,undef,undef,undef,undef] from rfl]
 go_wp2_with fail
 go_end0
 exact ⟨rfl,by simp⟩
theorem blk8 {w:World}{b:Nat}{v0 v1 v2 v3 v4 v5 v6 v7:Value}(c0:w.cell? ⟨b,0,none⟩=some v0) (c1:w.cell? ⟨b,1,none⟩=some v1) (c2:w.cell? ⟨b,2,none⟩=some v2) (c3:w.cell? ⟨b,3,none⟩=some v3) (c4:w.cell? ⟨b,4,none⟩=some v4) (c5:w.cell? ⟨b,5,none⟩=some v5) (c6:w.cell? ⟨b,6,none⟩=some v6) (c7:w.cell? ⟨b,7,none⟩=some v7) (f0:w.frozen? ⟨b,0,none⟩=false) (f1:w.frozen? ⟨b,1,none⟩=false) (f2:w.frozen? ⟨b,2,none⟩=false) (f3:w.frozen? ⟨b,3,none⟩=false) (f4:w.frozen? ⟨b,4,none⟩=false) (f5:w.frozen? ⟨b,5,none⟩=false) (f6:w.frozen? ⟨b,6,none⟩=false) (f7:w.frozen? ⟨b,7,none⟩=false):Blk w b [v0,v1,v2,v3,v4,v5,v6,v7]:=fun j hj =>
 match j,hj with
 | 0,_=>⟨c0,f0⟩
 | 1,_=>⟨c1,f1⟩
 | 2,_=>⟨c2,f2⟩
 | 3,_=>⟨c3,f3⟩
 | 4,_=>⟨c4,f4⟩
 | 5,_=>⟨c5,f5⟩
 | 6,_=>⟨c6,f6⟩
 | 7,_=>⟨c7,f7⟩
 | n+8,hj=>absurd hj (by simp)
theorem Lft.res2 (H:PH E w L h' d) (hb:Below w.heap.size w w1) (A:Lft E L d w1 w2 h){b:Nat}(h1:w.heap.size≤b) (h2:b < w1.heap.size) (x y:Value):Lft E L d w ((w2.setCell ⟨b,0,none⟩ x).setCell ⟨b,1,none⟩ y) h:=by
 obtain ⟨L1,K1,N1,H1⟩:=A;have K0:=(Kp.of_below (X:=own E L) hb (Nat.le_refl _)).trans K1 (fun _ h=>.inl h)
 have nb:¬ own E L1 b:=fun hk=>by
  rcases N1 b hk with q | q
  ·have:=own_lo H q;omega
  ·omega
 have hEB:=H.base;have K3:Kp (fun k=>k=b) w2 ((w2.setCell ⟨b,0,none⟩ x).setCell ⟨b,1,none⟩ y):=((Kp.refl (fun k=>k=b) w2).setCell (p:=⟨b,0,none⟩) (.inl rfl) x).setCell (p:=⟨b,1,none⟩) (.inl rfl) y;exact ⟨L1,(K0.setCell (p:=⟨b,0,none⟩) (.inr h1) x).setCell (p:=⟨b,1,none⟩) (.inr h1) y,fun k hk=>(N1 k hk).imp id (fun q=>Nat.le_trans hb.size q),H1.keep K3 (fun k e=>by subst e;exact ⟨by omega,nb⟩)⟩
theorem Lft.cell (A:Lft E L d w w1 h){b o:Nat}{v:Value}(hc:w.cell? ⟨b,o,none⟩=some v) (hn:¬ own E L b):w1.cell? ⟨b,o,none⟩=some v:=by
 obtain ⟨L1,K1,N1,H1⟩:=A;exact K1.cell hc hn
theorem Lft.frz (A:Lft E L d w w1 h){b o:Nat}{x:Bool}(hl:b < w.heap.size) (hc:w.frozen? ⟨b,o,none⟩=x) (hn:¬ own E L b):w1.frozen? ⟨b,o,none⟩=x:=by
 obtain ⟨L1,K1,N1,H1⟩:=A;exact K1.frz hc hl hn
def PanTo (F:List PanicEntry→World→Prop) (v:Value) (k:Nat) (Q:Exit→Act→World→Prop):Exit→Act→World→Prop
 | .panic c,a,w=>F c w∧a.tmps[k]? = some v∧a.defers=[]
 | e,a,w=>Q e a w
theorem wp_region_panTo {P:Program}{id:Nat}{ops:Array Oper}{b:Bool}{Q:Exit→Act→World→Prop}{a:Act}{w:World}(F:List PanicEntry→World→Prop) (v:Value) (k:Nat) (hF:∀ c a w,F c w→a.tmps[k]? = some v→a.defers=[]→Q (.panic c) a w) (h:(Code.region id ops b).wp P (PanTo F v k Q) a w):(Code.region id ops b).wp P Q a w :=
 Code.wp_mono (fun e a w h=>by
  cases e
  case panic c=>exact hF _ _ _ h.1 h.2.1 h.2.2
  all_goals exact h) h
theorem PanTo.put {F:List PanicEntry→World→Prop}{v:Value}{k:Nat}{Q:Exit→Act→World→Prop}(j:Nat) (hj:j≠k) (x:Value):∀ c a w,PanTo F v k Q (.panic c) (Act.put a (some j) x) w→PanTo F v k Q (.panic c) a w:=fun c a w h=>by
 refine ⟨h.1,?_,h.2.2⟩
 have:=h.2.1
 simp only [Act.put] at this;rw [Array.getElem?_setIfInBounds_ne hj] at this;exact this
theorem Blk.made1 (w:World) (o:Obj) (cs:List Value) (t:TypeId):Blk ((w.alloc o).alloc (.cells cs.toArray t)) (w.heap.size+1) cs:=by
 have h:=Blk.made (w.alloc o) cs t
 rwa [show (w.alloc o).heap.size=w.heap.size+1 from by simp] at h
theorem Blk.made2 (w:World) (o1 o2:Obj) (cs:List Value) (t:TypeId):Blk (((w.alloc o1).alloc o2).alloc (.cells cs.toArray t)) (w.heap.size+2) cs:=by
 have h:=Blk.made ((w.alloc o1).alloc o2) cs t
 rwa [show ((w.alloc o1).alloc o2).heap.size=w.heap.size+2 from by simp] at h
end
end Hpw
namespace Hpw
open Num Rd D Run Mem HierW
section
variable {E:Ev}{w w' w1 w2:World}{L L' L1:Lay}{h h' h1 h2:Hp}{d:Nat}{m m2:Me}
set_option maxRecDepth 100000 in
theorem callBad (hm:Hier.may E.f.classes=true) (H:PH E w L h d) (X:Nat→Prop){va:Value}(args:List Vl){vp vc vh:Value}(hVM:VMe w E.B (.agg #[vp,.int .i64 m.ret.kind,.int .i64 m.ret.cls,.int .i64 m.stack,.int .i64 m.locals,.int .i64 m.regs,vc,vh]) m) (ha:VS w X va args) (hlen:args.length=m.params.length) (h4:args.length≤4) (hv:∀ v∈args,VtOk h.objs.length v) (hc:allOf E.f.classes h args m.params=false) (fv:Value) :
  Calls Tryz.prog 50 #[.pointer (some ⟨E.hb,0,none⟩),.agg #[vp,.int .i64 m.ret.kind,.int .i64 m.ret.cls,.int .i64 m.stack,.int .i64 m.locals,.int .i64 m.regs,vc,vh],va,fv] w (InvR E L d w (.stop 6 h)):=by
 have HH:=Lib.hid H;obtain ⟨vp',vc',vh',hmv',oks,sps,sco,shs⟩:=hVM
 obtain ⟨rfl,rfl,rfl⟩:vp=vp'∧vc=vc'∧vh=vh':=by
  simp at hmv';exact ⟨hmv'.1,hmv'.2.1,hmv'.2.2⟩
 obtain ⟨pa,pcap,rfl,p1,p2,pel⟩:=id sps;obtain ⟨ca,ccap,rfl,p3,p4,_⟩:=id sco;obtain ⟨ha',hcap,rfl,p5,p6,_⟩:=id shs;have HA:=Lib.hid ha;obtain ⟨ax,acap,rfl,a1,a2⟩:=ha.len;have PEL:=Lib.hid pel;have hlq:((args.length:Int)==(m.params.length:Int))=true:=by rw [hlen];simp
 have hEB:E.B≤w.heap.size:=by have:=H.base;omega
 clear H ha hmv' sps sco shs pel
 go_enter_defers Tryz.func50,Tryz.ntmps50
 go_wp2_with fail
 refine (mustT _).mono ?_;rintro e w2 ⟨rfl,rfl⟩
 go_wp2_with fail
 generalize hWW:World.alloc _ (.cells #[.int .i64 0,.int .i64 0] 46)=W
 replace hWW:=Lib.hid hWW;have e0:W.cell? ⟨w.heap.size,0,none⟩=some (.pointer (some ⟨E.hb,0,none⟩)):=by rw [← hWW.out];go_simp
 have HB:=Lib.hid (show Below w.heap.size w W from by rw [← hWW.out];exact Rd.byB)
 have hsW:w.heap.size+2 < W.heap.size:=by rw [← hWW.out];simp
 clear hWW;have HC:=Lib.hid hc;clear hc
 go_loopw [28] (fun i wr=>∃ n:Nat,i=.int .i64 n∧n≤args.length∧Hid (Below W.heap.size W wr)∧Hid (allOf E.f.classes h args m.params=allOf E.f.classes h (args.drop n) (m.params.drop n))) (fun i _=>args.length - (intOf i).toNat)
 case atStart=>exact ⟨0,rfl,Nat.zero_le _,Lib.hid (Below.refl _ _),Lib.hid rfl⟩
 case round =>
  obtain ⟨n,rfl,hn,BW,HD⟩:=hrel
  by_cases hlt:n < args.length
  ·have hltp:n < m.params.length:=by omega
   have hni:(n:Int) < m.params.length:=by omega
   have hni2:(n:Int) < args.length:=by omega
   obtain ⟨pb,po,rfl,hpb,hpe⟩:=PEL.out n hltp;obtain ⟨ab,ao,acap',heq,hc1,hc2,hab,hnx,hel⟩:=HA.out.form (by omega)
   simp only [Value.slice.injEq] at heq;obtain ⟨rfl,_,rfl⟩:=heq;obtain ⟨z0,z1⟩:=hel n hlt;obtain ⟨v,hvv⟩:=at_of hlt;obtain ⟨t,htt⟩:=at_of hltp;rw [hvv.out] at z0 z1;rw [htt.out] at hpe;obtain ⟨y0,y1,_,_⟩:=hpe
   have hv3:v.kind=3→v.n < h.objs.length:=fun e=>by
    have hmem:v∈args:=by rw [← hvv.out];exact List.getElem_mem hlt
    exact ((hv v hmem).1.2.2.2 e).2
   have HBr:=Lib.hid (HB.out.trans (BW.out.mono (by omega)))
   have x0:=kept HBr.out (by omega) z0
   have x1:=kept HBr.out (by omega) z1
   have t0:=kept HBr.out (by omega) y0
   have t1:=kept HBr.out (by omega) y1
   have e0':=kept BW.out (by omega) e0
   have q0:=cell_lt x0;have q1:=cell_lt t0;have q2:=cell_lt e0';obtain ⟨tk,tc⟩:=t;obtain ⟨vk,vn⟩:=v;clear z0 z1 y0 y1 hel e0;simp only at t0 t1 x0 x1
   go_wp2_with fail
   refine wp_region_panTo (fun c w'=>c=[{ v:=stopV 6,recovered:=false }]∧Below w.heap.size w w') (.pointer (some ⟨w.heap.size+1+1,0,none⟩)) 8 ?hF ?_
   case hF =>
    intro c a w' hc ha hd
    obtain ⟨rfl,hb⟩:=hc
    show Leaves _ _ a.tmps (InvR E L d w (.stop 6 h)) a.defers (.panicking [{ v:=stopV 6,recovered:=false }]) w'
    rw [hd];exact ⟨Pan.one _,Lft.of_below HH.out hb⟩
   refine Drawn.hd (fun w'=>w'.cell? ⟨w.heap.size,0,none⟩=some (.pointer (some ⟨E.hb,0,none⟩))∧w'.cell? ⟨ab,ao+n*2,none⟩=some (.int .i64 vk)∧w'.cell? ⟨ab,ao+n*2+1,none⟩=some (.int .i64 vn)∧w'.cell? ⟨wr.heap.size,0,none⟩=some (.int .i64 tk)∧w'.cell? ⟨wr.heap.size,1,none⟩=some (.int .i64 tc)) (h:=fun hHeld=>?_);refine Drawn.tk 0 (some 33) rfl rfl (by assumption) ?_ (hQ:=PanTo.put 33 (by decide) _)
   try simp only [Act.put,List.setIfInBounds_toArray,List.set_cons_zero,List.set_cons_succ]
   refine Drawn.tk 1 (some 34) rfl rfl (by assumption) ?_ (hQ:=PanTo.put 34 (by decide) _)
   try simp only [Act.put,List.setIfInBounds_toArray,List.set_cons_zero,List.set_cons_succ]
   refine Drawn.tk 2 (some 35) rfl rfl (by assumption) ?_ (hQ:=PanTo.put 35 (by decide) _)
   try simp only [Act.put,List.setIfInBounds_toArray,List.set_cons_zero,List.set_cons_succ]
   refine Drawn.tk 3 (some 36) rfl rfl (by assumption) ?_ (hQ:=PanTo.put 36 (by decide) _)
   try simp only [Act.put,List.setIfInBounds_toArray,List.set_cons_zero,List.set_cons_succ]
   refine Drawn.tk 4 (some 37) rfl rfl (by assumption) ?_ (hQ:=PanTo.put 37 (by decide) _)
   try simp only [Act.put,List.setIfInBounds_toArray,List.set_cons_zero,List.set_cons_succ]
   refine Drawn.tk 5 (some 38) rfl rfl (by assumption) ?_ (hQ:=PanTo.put 38 (by decide) _)
   try simp only [Act.put,List.setIfInBounds_toArray,List.set_cons_zero,List.set_cons_succ]
   refine Drawn.cl 6 (fun K hK=>?_);go_simp;refine (of E L h d ⟨vk,vn⟩ ⟨tk,tc⟩ _ (HH.out.below (w':=(wr.alloc (.cells #[.int .i64 tk,.int .i64 tc] 50)).drew) (by have hb:=HBr.out;exact Rd.byB)) hm hv3).mono ?_
   rintro e w3 ⟨rfl,hb3⟩;obtain ⟨p,hp⟩:∃ p,Hid (ofT E.f.classes h ⟨vk,vn⟩ ⟨tk,tc⟩=p):=⟨_,Lib.hid rfl⟩;rw [hp.out];have kk:∀ (b o:Nat) (u:Value),World.cell? _ ⟨b,o,none⟩=some u→w3.cell? ⟨b,o,none⟩=some u:=fun b o u hc=>kept hb3 (cell_lt hc) hc;have k0:=kk w.heap.size 0 (.pointer (some ⟨E.hb,0,none⟩)) (by go_simp)
   have k1:=kk ab (ao+n*2) (.int .i64 vk) (by go_simp)
   have k2:=kk ab (ao+n*2+1) (.int .i64 vn) (by go_simp)
   have k3:=kk wr.heap.size 0 (.int .i64 tk) (by go_simp)
   have k4:=kk wr.heap.size 1 (.int .i64 tc) (by go_simp)
   have HB3:=Lib.hid (show Below wr.heap.size wr w3 from Below.trans (by exact Rd.byB) (hb3.mono Rd.byL))
   clear kk hb3
   go_wp2_with fail
   refine Drawn.bk hK (hS:=by (try dsimp only);exact ⟨k0,k1,k2,k3,k4⟩) (h:=fun hHeld=>?_)
   clear hK K;refine Drawn.cl 7 (fun K hK=>?_);go_simp
   cases p with
   | false =>
    refine (mustF _).mono ?_;rintro e w4 ⟨rfl,rfl⟩
    go_wp2_with fail
    exact ⟨⟨rfl,HBr.out.trans (HB3.out.mono (by have:=HBr.out.size;omega))⟩,rfl,rfl⟩
   | true =>
    refine (mustT _).mono ?_;rintro e w4 ⟨rfl,rfl⟩
    go_wp2_with fail
    refine Drawn.bk hK (hS:=by (try dsimp only);exact ⟨k0,k1,k2,k3,k4⟩) (h:=fun hHeld=>?_)
    clear hK K;refine dN ?_
    show Exit.inBlock 1 _ .normal _ _
    go_wp2_with fail
    go_roundw
    case rel =>
     refine ⟨n+1,by go_num,hlt,Lib.hid (BW.out.trans (HB3.out.mono BW.out.size)),?_⟩
     show _=_
     rw [HD.out,List.drop_eq_getElem_cons hlt,List.drop_eq_getElem_cons hltp,hvv.out,htt.out];simp [allOf,hp.out]
    case measure=>first | (simp [intOf];done) | (simp [intOf];omega)
  ·exfalso
   obtain rfl:n=args.length:=by omega
   have h1:=HD.out;rw [HC.out,List.drop_length,hlen,List.drop_length] at h1;simp [allOf] at h1
end
end Hpw
namespace Hpw
open Num Rd D Run Mem HierW
section
variable {E:Ev}{w w' w1 w2:World}{L L' L1:Lay}{h h' h1 h2:Hp}{d:Nat}{m m2:Me}
set_option maxRecDepth 100000 in
theorem callDeep (hm:Hier.may E.f.classes=true) (H:PH E w L h d) (X:Nat→Prop){va:Value}(args:List Vl){vp vc vh:Value}(hVM:VMe w E.B (.agg #[vp,.int .i64 m.ret.kind,.int .i64 m.ret.cls,.int .i64 m.stack,.int .i64 m.locals,.int .i64 m.regs,vc,vh]) m) (ha:VS w X va args) (hlen:args.length=m.params.length) (h4:args.length≤4) (hv:∀ v∈args,VtOk h.objs.length v) (hc:allOf E.f.classes h args m.params=true) (hd:20≤d) (fv:Value) :
  Calls Tryz.prog 50 #[.pointer (some ⟨E.hb,0,none⟩),.agg #[vp,.int .i64 m.ret.kind,.int .i64 m.ret.cls,.int .i64 m.stack,.int .i64 m.locals,.int .i64 m.regs,vc,vh],va,fv] w (InvR E L d w (.stop 5 h)):=by
 have HH:=Lib.hid H;obtain ⟨vp',vc',vh',hmv',oks,sps,sco,shs⟩:=hVM
 obtain ⟨rfl,rfl,rfl⟩:vp=vp'∧vc=vc'∧vh=vh':=by
  simp at hmv';exact ⟨hmv'.1,hmv'.2.1,hmv'.2.2⟩
 obtain ⟨pa,pcap,rfl,p1,p2,pel⟩:=id sps;obtain ⟨ca,ccap,rfl,p3,p4,_⟩:=id sco;obtain ⟨ha',hcap,rfl,p5,p6,_⟩:=id shs;have HA:=Lib.hid ha;obtain ⟨ax,acap,rfl,a1,a2⟩:=ha.len;have PEL:=Lib.hid pel;have hlq:((args.length:Int)==(m.params.length:Int))=true:=by rw [hlen];simp
 have hEB:E.B≤w.heap.size:=by have:=H.base;omega
 clear H ha hmv' sps sco shs pel
 go_enter_defers Tryz.func50,Tryz.ntmps50
 go_wp2_with fail
 refine (mustT _).mono ?_;rintro e w2 ⟨rfl,rfl⟩
 go_wp2_with fail
 generalize hWW:World.alloc _ (.cells #[.int .i64 0,.int .i64 0] 46)=W
 replace hWW:=Lib.hid hWW;have e0:W.cell? ⟨w.heap.size,0,none⟩=some (.pointer (some ⟨E.hb,0,none⟩)):=by rw [← hWW.out];go_simp
 have HB:=Lib.hid (show Below w.heap.size w W from by rw [← hWW.out];exact Rd.byB)
 have hsW:w.heap.size+2 < W.heap.size:=by rw [← hWW.out];simp
 clear hWW;have HC:=Lib.hid hc;clear hc
 go_loopw [28] (fun i wr=>∃ n:Nat,i=.int .i64 n∧n≤args.length∧Hid (Below W.heap.size W wr)∧Hid (allOf E.f.classes h args m.params=allOf E.f.classes h (args.drop n) (m.params.drop n))) (fun i _=>args.length - (intOf i).toNat)
 case atStart=>exact ⟨0,rfl,Nat.zero_le _,Lib.hid (Below.refl _ _),Lib.hid rfl⟩
 case round =>
  obtain ⟨n,rfl,hn,BW,HD⟩:=hrel
  by_cases hlt:n < args.length
  ·have hltp:n < m.params.length:=by omega
   have hni:(n:Int) < m.params.length:=by omega
   have hni2:(n:Int) < args.length:=by omega
   obtain ⟨pb,po,rfl,hpb,hpe⟩:=PEL.out n hltp;obtain ⟨ab,ao,acap',heq,hc1,hc2,hab,hnx,hel⟩:=HA.out.form (by omega)
   simp only [Value.slice.injEq] at heq;obtain ⟨rfl,_,rfl⟩:=heq;obtain ⟨z0,z1⟩:=hel n hlt;obtain ⟨v,hvv⟩:=at_of hlt;obtain ⟨t,htt⟩:=at_of hltp;rw [hvv.out] at z0 z1;rw [htt.out] at hpe;obtain ⟨y0,y1,_,_⟩:=hpe
   have hv3:v.kind=3→v.n < h.objs.length:=fun e=>by
    have hmem:v∈args:=by rw [← hvv.out];exact List.getElem_mem hlt
    exact ((hv v hmem).1.2.2.2 e).2
   have HBr:=Lib.hid (HB.out.trans (BW.out.mono (by omega)))
   have x0:=kept HBr.out (by omega) z0
   have x1:=kept HBr.out (by omega) z1
   have t0:=kept HBr.out (by omega) y0
   have t1:=kept HBr.out (by omega) y1
   have e0':=kept BW.out (by omega) e0
   have q0:=cell_lt x0;have q1:=cell_lt t0;have q2:=cell_lt e0';obtain ⟨tk,tc⟩:=t;obtain ⟨vk,vn⟩:=v;clear z0 z1 y0 y1 hel e0;simp only at t0 t1 x0 x1
   go_wp2_with fail
   refine wp_region_noPanic ?_;refine Drawn.hd (fun w'=>w'.cell? ⟨w.heap.size,0,none⟩=some (.pointer (some ⟨E.hb,0,none⟩))∧w'.cell? ⟨ab,ao+n*2,none⟩=some (.int .i64 vk)∧w'.cell? ⟨ab,ao+n*2+1,none⟩=some (.int .i64 vn)∧w'.cell? ⟨wr.heap.size,0,none⟩=some (.int .i64 tk)∧w'.cell? ⟨wr.heap.size,1,none⟩=some (.int .i64 tc)) (h:=fun hHeld=>?_);refine Drawn.tk 0 (some 33) rfl rfl (by assumption) ?_
   try simp only [Act.put,List.setIfInBounds_toArray,List.set_cons_zero,List.set_cons_succ]
   refine Drawn.tk 1 (some 34) rfl rfl (by assumption) ?_
   try simp only [Act.put,List.setIfInBounds_toArray,List.set_cons_zero,List.set_cons_succ]
   refine Drawn.tk 2 (some 35) rfl rfl (by assumption) ?_
   try simp only [Act.put,List.setIfInBounds_toArray,List.set_cons_zero,List.set_cons_succ]
   refine Drawn.tk 3 (some 36) rfl rfl (by assumption) ?_
   try simp only [Act.put,List.setIfInBounds_toArray,List.set_cons_zero,List.set_cons_succ]
   refine Drawn.tk 4 (some 37) rfl rfl (by assumption) ?_
   try simp only [Act.put,List.setIfInBounds_toArray,List.set_cons_zero,List.set_cons_succ]
   refine Drawn.tk 5 (some 38) rfl rfl (by assumption) ?_
   try simp only [Act.put,List.setIfInBounds_toArray,List.set_cons_zero,List.set_cons_succ]
   refine Drawn.cl 6 (fun K hK=>?_);go_simp;refine (of E L h d ⟨vk,vn⟩ ⟨tk,tc⟩ _ (HH.out.below (w':=(wr.alloc (.cells #[.int .i64 tk,.int .i64 tc] 50)).drew) (by have hb:=HBr.out;exact Rd.byB)) hm hv3).mono ?_
   rintro e w3 ⟨rfl,hb3⟩;obtain ⟨p,hp⟩:∃ p,Hid (ofT E.f.classes h ⟨vk,vn⟩ ⟨tk,tc⟩=p):=⟨_,Lib.hid rfl⟩;rw [hp.out];have kk:∀ (b o:Nat) (u:Value),World.cell? _ ⟨b,o,none⟩=some u→w3.cell? ⟨b,o,none⟩=some u:=fun b o u hc=>kept hb3 (cell_lt hc) hc;have k0:=kk w.heap.size 0 (.pointer (some ⟨E.hb,0,none⟩)) (by go_simp)
   have k1:=kk ab (ao+n*2) (.int .i64 vk) (by go_simp)
   have k2:=kk ab (ao+n*2+1) (.int .i64 vn) (by go_simp)
   have k3:=kk wr.heap.size 0 (.int .i64 tk) (by go_simp)
   have k4:=kk wr.heap.size 1 (.int .i64 tc) (by go_simp)
   have HB3:=Lib.hid (show Below wr.heap.size wr w3 from Below.trans (by exact Rd.byB) (hb3.mono Rd.byL))
   clear kk hb3
   go_wp2_with fail
   refine Drawn.bk hK (hS:=by (try dsimp only);exact ⟨k0,k1,k2,k3,k4⟩) (h:=fun hHeld=>?_)
   clear hK K;refine Drawn.cl 7 (fun K hK=>?_);go_simp
   cases p with
   | false =>
    exfalso;have h1:=HD.out;rw [HC.out,List.drop_eq_getElem_cons hlt,List.drop_eq_getElem_cons hltp,hvv.out,htt.out] at h1;simp [allOf,hp.out] at h1
   | true =>
    refine (mustT _).mono ?_;rintro e w4 ⟨rfl,rfl⟩
    go_wp2_with fail
    refine Drawn.bk hK (hS:=by (try dsimp only);exact ⟨k0,k1,k2,k3,k4⟩) (h:=fun hHeld=>?_)
    clear hK K;refine dN ?_;refine NoPanic.normal ?_
    go_wp2_with fail
    go_roundw
    case rel =>
     refine ⟨n+1,by go_num,hlt,Lib.hid (BW.out.trans (HB3.out.mono BW.out.size)),?_⟩
     show _=_
     rw [HD.out,List.drop_eq_getElem_cons hlt,List.drop_eq_getElem_cons hltp,hvv.out,htt.out];simp [allOf,hp.out]
    case measure=>first | (simp [intOf];done) | (simp [intOf];omega)
  ·obtain rfl:n=args.length:=by omega
   have hn2:¬ ((args.length:Int) < m.params.length):=by omega
   have hn3:¬ (args.length < m.params.length):=by omega
   have HBr:=Lib.hid (HB.out.trans (BW.out.mono (by omega)))
   have c10:=(HH.out.below HBr.out).c10;have e0':=kept BW.out (by omega) e0
   have hdd:decide ((20:Int)≤d)=true:=by simp;omega
   clear e0
   go_wp2_with fail
   exact ⟨Pan.one _,Lft.of_below HH.out HBr.out⟩
end
end Hpw
namespace Hpr
open Num Rd D Run Mem HierW Hpw
def clr (fr:Rf):Rf:=⟨fr.regs,fr.at_,Vl.nil,Vl.nil⟩
structure PS where
 cb:Nat
 lb:Nat
 vp:Value
 vc:Value
 vh:Value
def mcs (P:PS) (m:Me):List Value:=[P.vp,.int .i64 m.ret.kind,.int .i64 m.ret.cls,.int .i64 m.stack,.int .i64 m.locals,.int .i64 m.regs,P.vc,P.vh]
def fcs (E:Ev) (P:PS) (m:Me) (fr:Rf) (vs:Value):List Value:=.pointer (some ⟨E.hb,0,none⟩) :: (mcs P m++[.slice (some ⟨P.lb,0,none⟩) fr.regs.length fr.regs.length,.int .i64 fr.at_,.int .i64 fr.given.kind,.int .i64 fr.given.n,.int .i64 fr.got.kind,.int .i64 fr.got.n,.bool false])
def fo (E:Ev) (L:Lay) (P:PS) (vs:Value) (k:Nat):Prop:=own E L k∨k=P.cb∨k=P.lb∨vs.ownBlock=some k
structure Mi (E:Ev) (w:World) (P:PS) (m:Me):Prop where
 ps:Sl 2 ETy w E.B P.vp m.params
 co:Sl 6 EIns w E.B P.vc m.code
 hs:Sl 4 EHd w E.B P.vh m.handlers
 ok:Ok m.ret.kind∧Ok m.ret.cls∧Ok m.stack∧Ok m.locals∧Ok m.regs
theorem Mi.mono {E:Ev}{w w':World}{P:PS}{m:Me}(M:Mi E w P m) (hb:Below E.B w w'):Mi E w' P m :=
 ⟨M.ps.mono mTy hb (Nat.le_refl _),M.co.mono mIns hb (Nat.le_refl _),M.hs.mono mHd hb (Nat.le_refl _),M.ok⟩
structure ST (E:Ev) (w:World) (L:Lay) (P:PS) (m:Me) (d:Nat) (h:Hp) (fr:Rf) (vs:Value):Prop where
 H:PH E w L h d
 M:Mi E w P m
 blk:Blk w P.cb (fcs E P m fr vs)
 loc:Blk w P.lb (vcells fr.regs)
 lbw:P.lb < w.heap.size
 stk:w.ownsRow E.B 46 2 vs 0 []
 lo:E.B≤P.cb∧E.B≤P.lb
 far:¬ own E L P.cb∧¬ own E L P.lb∧∀ g,vs.ownBlock=some g→¬ own E L g
 ne:P.cb≠P.lb∧vs.ownBlock≠some P.cb∧vs.ownBlock≠some P.lb
def LftF (E:Ev) (L:Lay) (P:PS) (m:Me) (d:Nat) (vs:Value) (w w':World) (h:Hp) (fr:Rf):Prop :=
 ∃ L' vs',Kp (fo E L P vs) w w'∧(∀ k,own E L' k→own E L k∨w.heap.size≤k)∧(∀ k,vs'.ownBlock=some k→vs.ownBlock=some k∨w.heap.size≤k)∧ST E w' L' P m d h fr vs'
def LftS (E:Ev) (L:Lay) (P:PS) (d:Nat) (vs:Value) (w w':World) (h:Hp):Prop :=
 ∃ L',Kp (fo E L P vs) w w'∧(∀ k,own E L' k→own E L k∨w.heap.size≤k)∧PH E w' L' h d
def PlR (E:Ev) (L:Lay) (P:PS) (m:Me) (d:Nat) (vs:Value) (fr:Rf) (V:Value) (w:World) (a:Out Rf) (e:Ending) (w':World):Prop:=match a with
 | .go fr' h=>e=.returned V∧LftF E L P m d vs w w' h ⟨fr'.regs,fr.at_,Vl.nil,Vl.nil⟩
 | .back _ _=>False
 | .thrown o h=>Pan (thrownV o) e∧LftF E L P m d vs w w' h (clr fr)
 | .stop c h=>Pan (stopV c) e∧LftS E L P d vs w w' h
def oA (a:Run.Act Rf):Out Rf:=match a with
 | .go fr h=>.go fr h
 | .back v h=>.back v h
 | .thrown o h=>.thrown o h
 | .stop e h=>.stop e h
 | .call _ _ _ h=>.stop 6 h
structure Gr (E:Ev) (L:Lay) (P:PS) (vs:Value) (w:World) (L1:Lay) (vs1:Value) (w1:World):Prop where
 kp:Kp (fo E L P vs) w w1
 ow:∀ k,own E L1 k→own E L k∨w.heap.size≤k
 st:∀ k,vs1.ownBlock=some k→vs.ownBlock=some k∨w.heap.size≤k
section
variable {E:Ev}{w w' w0 w1 w2 w3 wc:World}{L L' L1 L2:Lay}{h h' h1 h2:Hp}{d:Nat}{P:PS}{m:Me}{fr fr' fr1:Rf}{vs vs1 vs2:Value}
theorem ST.cbw (S:ST E w L P m d h fr vs):P.cb < w.heap.size:=cell_lt (S.blk 0 (by simp [fcs,mcs])).1
theorem ST.base (S:ST E w L P m d h fr vs):E.B≤w.heap.size:=Nat.le_of_lt (Nat.lt_of_le_of_lt S.lo.1 S.cbw)
theorem ST.fo_lo (S:ST E w L P m d h fr vs){k:Nat}(hk:fo E L P vs k):E.B≤k∧k < w.heap.size:=by
 rcases hk with e | e | e | e
 ·exact own_lo S.H e
 ·subst e;exact ⟨S.lo.1,S.cbw⟩
 ·subst e;exact ⟨S.lo.2,S.lbw⟩
 ·exact World.ownsRow.lt S.stk k e
theorem ST.bel (S:ST E w L P m d h fr vs) (K:Kp (fo E L P vs) w w'):Below E.B w w':=K.below S.base (fun x hx=>(S.fo_lo hx).1)
theorem ST.c0 (S:ST E w L P m d h fr vs):w.cell? ⟨P.cb,0,none⟩=some (.pointer (some ⟨E.hb,0,none⟩)):=(S.blk 0 (by simp [fcs,mcs])).1
theorem ST.c1 (S:ST E w L P m d h fr vs):w.cell? ⟨P.cb,1,none⟩=some P.vp:=(S.blk 1 (by simp [fcs,mcs])).1
theorem ST.c2 (S:ST E w L P m d h fr vs):w.cell? ⟨P.cb,2,none⟩=some (.int .i64 m.ret.kind):=(S.blk 2 (by simp [fcs,mcs])).1
theorem ST.c3 (S:ST E w L P m d h fr vs):w.cell? ⟨P.cb,3,none⟩=some (.int .i64 m.ret.cls):=(S.blk 3 (by simp [fcs,mcs])).1
theorem ST.c4 (S:ST E w L P m d h fr vs):w.cell? ⟨P.cb,4,none⟩=some (.int .i64 m.stack):=(S.blk 4 (by simp [fcs,mcs])).1
theorem ST.c7 (S:ST E w L P m d h fr vs):w.cell? ⟨P.cb,7,none⟩=some P.vc:=(S.blk 7 (by simp [fcs,mcs])).1
theorem ST.c9 (S:ST E w L P m d h fr vs):w.cell? ⟨P.cb,9,none⟩=some (.slice (some ⟨P.lb,0,none⟩) fr.regs.length fr.regs.length):=(S.blk 9 (by simp [fcs,mcs])).1
theorem ST.c10 (S:ST E w L P m d h fr vs):w.cell? ⟨P.cb,10,none⟩=some (.int .i64 fr.at_):=(S.blk 10 (by simp [fcs,mcs])).1
theorem ST.c11 (S:ST E w L P m d h fr vs):w.cell? ⟨P.cb,11,none⟩=some (.int .i64 fr.given.kind):=(S.blk 11 (by simp [fcs,mcs])).1
theorem ST.c12 (S:ST E w L P m d h fr vs):w.cell? ⟨P.cb,12,none⟩=some (.int .i64 fr.given.n):=(S.blk 12 (by simp [fcs,mcs])).1
theorem ST.c13 (S:ST E w L P m d h fr vs):w.cell? ⟨P.cb,13,none⟩=some (.int .i64 fr.got.kind):=(S.blk 13 (by simp [fcs,mcs])).1
theorem ST.c14 (S:ST E w L P m d h fr vs):w.cell? ⟨P.cb,14,none⟩=some (.int .i64 fr.got.n):=(S.blk 14 (by simp [fcs,mcs])).1
theorem ST.fz (S:ST E w L P m d h fr vs) (k:Nat) (hk:k < 16):w.frozen? ⟨P.cb,k,none⟩=false:=(S.blk k (by simp [fcs,mcs];exact hk)).2
theorem ST.heap (S:ST E w L P m d h fr vs) (K:Kp (own E L) w w') (N:∀ k,own E L' k→own E L k∨w.heap.size≤k) (H:PH E w' L' h' d):ST E w' L' P m d h' fr vs:=by
 have hc:=S.cbw;have hl:=S.lbw
 have far:∀ k,k < w.heap.size→¬ own E L k→¬ own E L' k:=fun k hlt hn hk=>by
  rcases N k hk with q | q
  ·exact hn q
  ·omega
 exact ⟨H,S.M.mono (K.below S.base (fun k hk=>(own_lo S.H hk).1)),S.blk.next K S.far.1,S.loc.next K S.far.2.1,Nat.lt_of_lt_of_le hl K.size,row_keep S.stk K S.far.2.2,S.lo,⟨far _ hc S.far.1,far _ hl S.far.2.1,fun g hg=>far _ (World.ownsRow.lt S.stk g hg).2 (S.far.2.2 g hg)⟩,S.ne⟩
theorem ST.below (S:ST E w L P m d h fr vs) (hb:Below w.heap.size w w'):ST E w' L P m d h fr vs:=S.heap (kpB hb) same_own (S.H.below hb)
theorem ST.lft (S:ST E w L P m d h fr vs) (hb:Below w.heap.size w w'):LftF E L P m d vs w w' h fr:=⟨L,vs,Mem.Kp.of_below hb (Nat.le_refl _),same_own,fun _ e=>.inl e,S.below hb⟩
theorem ST.lftH (S:ST E w L P m d h fr vs) (A:Lft E L d w w' h'):LftF E L P m d vs w w' h' fr:=by
 obtain ⟨L',K,N,H⟩:=A;exact ⟨L',vs,K.mono (fun k hk=>.inl hk),N,fun _ e=>.inl e,S.heap K N H⟩
theorem LftF.trans (A:LftF E L P m d vs w w1 h1 fr1) (B:∀ L1 vs1,ST E w1 L1 P m d h1 fr1 vs1→(∀ k,own E L1 k→own E L k∨w.heap.size≤k)→LftF E L1 P m d vs1 w1 w2 h2 fr):LftF E L P m d vs w w2 h2 fr:=by
 obtain ⟨L1,vs1,K,N,V,S⟩:=A;obtain ⟨L2,vs2,K2,N2,V2,S2⟩:=B L1 vs1 S N;have hs:=K.size;refine ⟨L2,vs2,K.trans K2 (fun y hy=>?_),fun k hk=>(N2 k hk).elim (N k) (fun q=>.inr (by omega)),fun k hk=>(V2 k hk).elim (V k) (fun q=>.inr (by omega)),S2⟩
 rcases hy with e | e | e | e
 ·exact (N y e).imp .inl id
 ·exact .inl (.inr (.inl e))
 ·exact .inl (.inr (.inr (.inl e)))
 ·exact (V y e).imp (fun q=>.inr (.inr (.inr q))) id
theorem LftF.stop (A:LftF E L P m d vs w w' h fr):LftS E L P d vs w w' h:=by
 obtain ⟨L1,vs1,K,N,V,S⟩:=A;exact ⟨L1,K,N,S.H⟩
theorem LftF.below (A:LftF E L P m d vs w w1 h fr) (hb:Below w1.heap.size w1 w2):LftF E L P m d vs w w2 h fr:=A.trans (fun _ _ S _=>S.lft hb)
theorem LftS.below (A:LftS E L P d vs w w1 h) (hb:Below w1.heap.size w1 w2):LftS E L P d vs w w2 h:=by
 obtain ⟨L1,K,N,S⟩:=A;exact ⟨L1,kb K hb,N,S.below hb⟩
theorem Lft.stop (S:ST E w L P m d h fr vs) (A:Lft E L d w w' h'):LftS E L P d vs w w' h':=(S.lftH A).stop
theorem ST.setF (S:ST E w L P m d h fr vs){fr2:Rf}(K:Kp (fun k=>k=P.cb) w w') (B:Blk w' P.cb (fcs E P m fr2 vs)) (hl:fr2.regs=fr.regs):LftF E L P m d vs w w' h fr2:=by
 refine ⟨L,vs,K.mono (fun k e=>.inr (.inl e)),same_own,fun _ e=>.inl e,?_⟩;exact ⟨S.H.keep K (fun k e=>by subst e;exact ⟨S.lo.1,S.far.1⟩),S.M.mono (K.below S.base (fun k e=>by subst e;exact S.lo.1)),B,by rw [hl];exact S.loc.next K (fun e=>S.ne.1 e.symm),Nat.lt_of_lt_of_le S.lbw K.size,row_keep S.stk K (fun g hg e=>S.ne.2.1 (e ▸ hg)),S.lo,S.far,S.ne⟩
theorem ST.setAt (S:ST E w L P m d h fr vs) (a:Nat):LftF E L P m d vs w (w.setCell ⟨P.cb,10,none⟩ (.int .i64 a)) h ⟨fr.regs,a,fr.given,fr.got⟩ :=
 S.setF ((Kp.refl (fun k=>k=P.cb) w).setCell (p:=⟨P.cb,10,none⟩) (.inl rfl) _) (S.blk.set 10 (by simp [fcs,mcs]) (.int .i64 a)) rfl
theorem ST.setGiven (S:ST E w L P m d h fr vs) (v:Vl):LftF E L P m d vs w ((w.setCell ⟨P.cb,11,none⟩ (.int .i64 v.kind)).setCell ⟨P.cb,12,none⟩ (.int .i64 v.n)) h ⟨fr.regs,fr.at_,v,fr.got⟩ :=
 S.setF (((Kp.refl (fun k=>k=P.cb) w).setCell (p:=⟨P.cb,11,none⟩) (.inl rfl) _).setCell (p:=⟨P.cb,12,none⟩) (.inl rfl) _) ((S.blk.set 11 (by simp [fcs,mcs]) (.int .i64 v.kind)).set 12 (by simp [fcs,mcs]) (.int .i64 v.n)) rfl
theorem ST.setGot (S:ST E w L P m d h fr vs) (v:Vl):LftF E L P m d vs w ((w.setCell ⟨P.cb,13,none⟩ (.int .i64 v.kind)).setCell ⟨P.cb,14,none⟩ (.int .i64 v.n)) h ⟨fr.regs,fr.at_,fr.given,v⟩ :=
 S.setF (((Kp.refl (fun k=>k=P.cb) w).setCell (p:=⟨P.cb,13,none⟩) (.inl rfl) _).setCell (p:=⟨P.cb,14,none⟩) (.inl rfl) _) ((S.blk.set 13 (by simp [fcs,mcs]) (.int .i64 v.kind)).set 14 (by simp [fcs,mcs]) (.int .i64 v.n)) rfl
theorem ST.setLoc (S:ST E w L P m d h fr vs){l:List Vl}(hl:l.length=fr.regs.length) (K:Kp (fun k=>k=P.lb) w w') (B:Blk w' P.lb (vcells l)):LftF E L P m d vs w w' h ⟨l,fr.at_,fr.given,fr.got⟩:=by
 refine ⟨L,vs,K.mono (fun k e=>.inr (.inr (.inl e))),same_own,fun _ e=>.inl e,?_⟩;refine ⟨S.H.keep K (fun k e=>by subst e;exact ⟨S.lo.2,S.far.2.1⟩),S.M.mono (K.below S.base (fun k e=>by subst e;exact S.lo.2)),?_,B,Nat.lt_of_lt_of_le S.lbw K.size,row_keep S.stk K (fun g hg e=>S.ne.2.2 (e ▸ hg)),S.lo,S.far,S.ne⟩
 have:=S.blk.next K S.ne.1
 unfold fcs at this ⊢;rw [hl];exact this
theorem ST.fo_new (S:ST E w L P m d h fr vs){b:Nat}(hb:w.heap.size≤b):¬ fo E L P vs b:=fun hk=>by have:=(S.fo_lo hk).2;omega
theorem LftF.before (hb:Below w.heap.size w w1) (A:LftF E L P m d vs w1 w2 h fr):LftF E L P m d vs w w2 h fr:=by
 obtain ⟨L1,vs1,K,N,V,S⟩:=A;have hs:=hb.size;exact ⟨L1,vs1,(Kp.of_below (X:=fo E L P vs) hb (Nat.le_refl _)).trans K (fun y hy=>.inl hy),fun k hk=>(N k hk).imp id (fun q=>by omega),fun k hk=>(V k hk).imp id (fun q=>by omega),S⟩
theorem LftF.box (A:LftF E L P m d vs w w' h fr){b o:Nat}{v:Value}(hc:w.cell? ⟨b,o,none⟩=some v) (hb:¬ fo E L P vs b):w'.cell? ⟨b,o,none⟩=some v:=by
 obtain ⟨L1,vs1,K,N,V,S⟩:=A;exact K.cell hc hb
theorem LftF.boxf (A:LftF E L P m d vs w w' h fr){b o:Nat}{x:Bool}(hc:w.frozen? ⟨b,o,none⟩=x) (hl:b < w.heap.size) (hb:¬ fo E L P vs b):w'.frozen? ⟨b,o,none⟩=x:=by
 obtain ⟨L1,vs1,K,N,V,S⟩:=A;exact K.frz hc hl hb
theorem LftF.size (A:LftF E L P m d vs w w' h fr):w.heap.size≤w'.heap.size:=by
 obtain ⟨L1,vs1,K,N,V,S⟩:=A;exact K.size
theorem ST.res (S:ST E w L P m d h fr vs){b:Nat}(h1:E.B≤b) (h2:¬ fo E L P vs b) (j:Nat) (x:Value):ST E (w.setCell ⟨b,j,none⟩ x) L P m d h fr vs:=by
 have K:Kp (fun k=>k=b) w (w.setCell ⟨b,j,none⟩ x):=Kp.setCell (Kp.refl (fun k=>k=b) w) (p:=⟨b,j,none⟩) (.inl rfl) x;have no:∀ k,fo E L P vs k→¬ k=b:=fun k hk e=>h2 (e ▸ hk);exact ⟨S.H.res h1 (fun e=>h2 (.inl e)) j x,S.M.mono (K.below S.base (fun k e=>by subst e;exact h1)),S.blk.next K (no _ (.inr (.inl rfl))),S.loc.next K (no _ (.inr (.inr (.inl rfl)))),Nat.lt_of_lt_of_le S.lbw K.size,row_keep S.stk K (fun g hg e=>no g (.inr (.inr (.inr hg))) e),S.lo,S.far,S.ne⟩
theorem LftF.res2 (S:ST E w L P m d h' fr' vs) (hb:Below w.heap.size w w1) (A:LftF E L P m d vs w1 w2 h fr){b:Nat}(h1:w.heap.size≤b) (h2:b < w1.heap.size) (x y:Value):LftF E L P m d vs w ((w2.setCell ⟨b,0,none⟩ x).setCell ⟨b,1,none⟩ y) h fr:=by
 obtain ⟨L1,vs1,K,N,V,S2⟩:=A;have hs:=hb.size;have hEB:=S.base
 have nf:¬ fo E L1 P vs1 b:=fun hk=>by
  have hlo:∀ k,fo E L P vs k→k < w.heap.size:=fun k hk=>(S.fo_lo hk).2
  rcases hk with e | e | e | e
  ·rcases N b e with q | q
   ·have:=hlo b (.inl q);omega
   ·omega
  ·have:=hlo b (.inr (.inl e));omega
  ·have:=hlo b (.inr (.inr (.inl e)));omega
  ·rcases V b e with q | q
   ·have:=hlo b (.inr (.inr (.inr q)));omega
   ·omega
 exact ⟨L1,vs1,(((Kp.of_below (X:=fo E L P vs) hb (Nat.le_refl _)).trans K (fun y hy=>.inl hy)).setCell (p:=⟨b,0,none⟩) (.inr h1) x).setCell (p:=⟨b,1,none⟩) (.inr h1) y,fun k hk=>(N k hk).imp id (fun q=>by omega),fun k hk=>(V k hk).imp id (fun q=>by omega),(S2.res (by omega) nf 0 x).res (by omega) nf 1 y⟩
theorem LftF.opn (A:LftF E L P m d vs w w' h fr):∃ L1 vs1,Gr E L P vs w L1 vs1 w'∧ST E w' L1 P m d h fr vs1:=by
 obtain ⟨L1,vs1,K,N,V,S⟩:=A;exact ⟨L1,vs1,⟨K,N,V⟩,S⟩
theorem Gr.lft (G:Gr E L P vs w L1 vs1 w') (S:ST E w' L1 P m d h fr vs1):LftF E L P m d vs w w' h fr:=⟨L1,vs1,G.kp,G.ow,G.st,S⟩
theorem Gr.fo (G:Gr E L P vs w L1 vs1 w1){k:Nat}(hk:fo E L1 P vs1 k):fo E L P vs k∨w.heap.size≤k:=by
 rcases hk with e | e | e | e
 ·exact (G.ow k e).imp .inl id
 ·exact .inl (.inr (.inl e))
 ·exact .inl (.inr (.inr (.inl e)))
 ·exact (G.st k e).imp (fun q=>.inr (.inr (.inr q))) id
theorem Gr.nf (G:Gr E L P vs w L1 vs1 w1){b:Nat}(hb:b < w.heap.size) (nf:¬ Hpr.fo E L P vs b):¬ Hpr.fo E L1 P vs1 b:=fun hk=>by
 rcases G.fo hk with q | q
 ·exact nf q
 ·omega
theorem Gr.trans (G:Gr E L P vs w L1 vs1 w1) (G2:Gr E L1 P vs1 w1 L2 vs2 w2):Gr E L P vs w L2 vs2 w2:=by
 have hs:=G.kp.size;exact ⟨G.kp.trans G2.kp (fun y hy=>G.fo hy),fun k hk=>(G2.ow k hk).elim (G.ow k) (fun q=>.inr (by omega)),fun k hk=>(G2.st k hk).elim (G.st k) (fun q=>.inr (by omega))⟩
theorem Gr.of_below (hb:Below w.heap.size w w1):Gr E L P vs w L vs w1:=⟨Kp.of_below hb (Nat.le_refl _),fun _ h=>.inl h,fun _ h=>.inl h⟩
theorem Gr.of_heap (A:Lft E L d w w1 h') (S:ST E w L P m d h fr vs):∃ L1,Gr E L P vs w L1 vs w1∧ST E w1 L1 P m d h' fr vs:=by
 obtain ⟨L',K,N,H⟩:=A;exact ⟨L',⟨K.mono (fun k hk=>.inl hk),N,fun _ h=>.inl h⟩,S.heap K N H⟩
theorem Gr.cell (G:Gr E L P vs w L1 vs1 w1){b o:Nat}{v:Value}(nf:¬ Hpr.fo E L P vs b) (hc:w.cell? ⟨b,o,none⟩=some v):w1.cell? ⟨b,o,none⟩=some v:=G.kp.cell hc nf
theorem Gr.frz (G:Gr E L P vs w L1 vs1 w1){b o:Nat}{x:Bool}(nf:¬ Hpr.fo E L P vs b) (hl:b < w.heap.size) (hc:w.frozen? ⟨b,o,none⟩=x):w1.frozen? ⟨b,o,none⟩=x:=G.kp.frz hc hl nf
theorem Gr.comp (G:Gr E L P vs w L1 vs1 w1) (B:LftF E L1 P m d vs1 w1 w2 h fr):LftF E L P m d vs w w2 h fr:=by
 obtain ⟨L2,vs2,G2,S2⟩:=B.opn;exact (G.trans G2).lft S2
theorem Gr.compS (G:Gr E L P vs w L1 vs1 w1) (B:LftS E L1 P d vs1 w1 w2 h):LftS E L P d vs w w2 h:=by
 obtain ⟨L2,K2,N2,H2⟩:=B;have hs:=G.kp.size;exact ⟨L2,G.kp.trans K2 (fun y hy=>G.fo hy),fun k hk=>(N2 k hk).elim (G.ow k) (fun q=>.inr (by omega)),H2⟩
theorem plr_stuck {U:Value}(G:Gr E L P vs w L1 vs1 w1) (S:ST E w1 L1 P m d h fr1 vs1):PlR E L P m d vs fr U w (.stop 6 h) (pan (stopV 6)) w1:=⟨Pan.one _,(G.lft S).stop⟩
theorem plr_thrown {U:Value}{o:Nat}(G:Gr E L P vs w L1 vs1 w1) (S:ST E w1 L1 P m d h (clr fr) vs1):PlR E L P m d vs fr U w (.thrown o h) (pan (thrownV o)) w1:=⟨Pan.one _,G.lft S⟩
theorem plr_stop {U:Value}{c:Int}(G:Gr E L P vs w L1 vs1 w1) (S:ST E w1 L1 P m d h fr1 vs1):PlR E L P m d vs fr U w (.stop c h) (pan (stopV c)) w1:=⟨Pan.one _,(G.lft S).stop⟩
theorem plr_go {U:Value}{l:List Vl}{a:Nat}{g1 g2:Vl}(G:Gr E L P vs w L1 vs1 w1) (S:ST E w1 L1 P m d h ⟨l,fr.at_,Vl.nil,Vl.nil⟩ vs1):PlR E L P m d vs fr U w (.go ⟨l,a,g1,g2⟩ h) (.returned U) w1:=⟨rfl,G.lft S⟩
theorem readOk (S:ST E w L P m d h fr vs) (k:Nat) (hk:k < fr.regs.length) (h1000:fr.regs.length≤1000) (x:Vl) (hx:fr.regs.getD k Vl.nil=x) (kd:Int) (hkd:x.kind=kd) :
  Calls Tryz.prog 149 #[.pointer (some ⟨P.cb,0,none⟩),.int .i64 k,.int .i64 kd] w fun e w'=>e=.returned (.agg #[.int .i64 x.kind,.int .i64 x.n])∧Below w.heap.size w w':=by
 have c9:=S.c9;have hcb:=S.cbw;have HL:=Lib.hid S.loc;clear S
 go_enter Tryz.func149,Tryz.ntmps149
 go_wp2_with (go_at_call 157;refine (loadOk (HL.out.alloc _) k x hx hk h1000 kd hkd).mono ?_;rintro e w2 ⟨rfl,hb2⟩;have y0:w2.cell? ⟨w.heap.size,0,none⟩=some (.int .i64 0):=kept hb2 Rd.byL (by go_simp);have y1:w2.cell? ⟨w.heap.size,1,none⟩=some (.int .i64 0):=kept hb2 Rd.byL (by go_simp);have f0:w2.frozen? ⟨w.heap.size,0,none⟩=false:=frz_kept hb2 Rd.byL (by go_simp);have f1:w2.frozen? ⟨w.heap.size,1,none⟩=false:=frz_kept hb2 Rd.byL (by go_simp);have hbw:Below w.heap.size w w2:=Below.trans (by exact Rd.byB) (hb2.mono Rd.byL);have hlt:=cell_lt y0;clear hb2)
 refine bodyPost_ret (v:=.agg #[.int .i64 x.kind,.int .i64 x.n]) (by simp [results,Tryz.results149,go_sem] <;> go_simp) rfl ?_
 exact ⟨rfl,by exact Rd.byB⟩
theorem readBad (S:ST E w L P m d h fr vs) (k:Nat) (hk:k < fr.regs.length) (h1000:fr.regs.length≤1000) (x:Vl) (hx:fr.regs.getD k Vl.nil=x) (kd:Int) (hkd:x.kind≠kd) :
  Calls Tryz.prog 149 #[.pointer (some ⟨P.cb,0,none⟩),.int .i64 k,.int .i64 kd] w fun e w'=>e=pan (stopV 6)∧Below w.heap.size w w':=by
 have c9:=S.c9;have hcb:=S.cbw;have HL:=Lib.hid S.loc;clear S
 go_enter Tryz.func149,Tryz.ntmps149
 go_wp2_with (go_at_call 157;refine (loadStuck (HL.out.alloc _) k x hx hk h1000 kd hkd).mono ?_;rintro e w2 ⟨rfl,hb2⟩;unfold pan)
 refine And.intro rfl ?_;exact ⟨rfl,Below.trans (by exact Rd.byB) (hb2.mono Rd.byL)⟩
theorem storeR (S:ST E w L P m d h fr vs) (hP:Paired fr.regs) (k:Nat) (v:Vl) (hk:k+width v≤fr.regs.length) (h1000:fr.regs.length≤1000) :
  Calls Tryz.prog 52 #[.slice (some ⟨P.lb,0,none⟩) fr.regs.length fr.regs.length,.int .i64 k,.agg #[.int .i64 v.kind,.int .i64 v.n]] w fun e w'=>e=.returned (.tuple #[])∧LftF E L P m d vs w w' h ⟨Run.store fr.regs k v,fr.at_,fr.given,fr.got⟩ :=
 (storeP S.loc S.lbw hP k v hk h1000).mono fun e w' ⟨he,hb,hk⟩=>⟨he,S.setLoc (Run.store_len _ _ _) hk hb⟩
theorem writeR (S:ST E w L P m d h fr vs) (hP:Paired fr.regs) (k:Nat) (v:Vl) (hk:k+width v≤fr.regs.length) (h1000:fr.regs.length≤1000) :
  Calls Tryz.prog 191 #[.pointer (some ⟨P.cb,0,none⟩),.int .i64 k,.int .i64 v.kind,.int .i64 v.n] w fun e w'=>e=.returned (.tuple #[])∧LftF E L P m d vs w w' h ⟨Run.store fr.regs k v,fr.at_,fr.given,fr.got⟩:=by
 have c9:=S.c9;have hcb:=S.cbw;have HS:=Lib.hid S;clear S
 go_enter Tryz.func191,Tryz.ntmps191
 go_wp2_with (go_at_call 52;refine (storeR HS.out hP k v hk h1000).mono ?_;rintro e w2 ⟨rfl,A⟩)
 go_end0
 exact ⟨rfl,A⟩
end
end Hpr
namespace Hpr
open Num Rd D Run Mem HierW Hpw
section
variable {E:Ev}{w w' w1 w2:World}{L L' L1:Lay}{h h' h1 h2:Hp}{d:Nat}{P:PS}{m:Me}{fr fr1:Rf}{vs vs1:Value}{rg:List Vl}{ap:Nat}
theorem readR (S:ST E w L P m d h fr vs) (k:Nat) (hk:k < fr.regs.length) (h1000:fr.regs.length≤1000) (x:Vl) (hx:fr.regs.getD k Vl.nil=x) (kd:Int) :
  Calls Tryz.prog 149 #[.pointer (some ⟨P.cb,0,none⟩),.int .i64 k,.int .i64 kd] w fun e w'=>((x.kind=kd∧e=.returned (.agg #[.int .i64 x.kind,.int .i64 x.n]))∨(x.kind≠kd∧e=pan (stopV 6)))∧Below w.heap.size w w':=by
 by_cases q:x.kind=kd
 ·exact (readOk S k hk h1000 x hx kd q).mono fun e w' ⟨he,hb⟩=>⟨.inl ⟨q,he⟩,hb⟩
 ·exact (readBad S k hk h1000 x hx kd q).mono fun e w' ⟨he,hb⟩=>⟨.inr ⟨q,he⟩,hb⟩
theorem plr_stuckE {a:Out Rf}{U:Value}(ha:a=.stop 6 h) (G:Gr E L P vs w L1 vs1 w1) (S:ST E w1 L1 P m d h fr1 vs1):PlR E L P m d vs fr U w a (pan (stopV 6)) w1:=by rw [ha];exact plr_stuck G S
theorem plr_goE {a:Out Rf}{U:Value}{l:List Vl}{t:Nat}{g1 g2:Vl}(ha:a=.go ⟨l,t,g1,g2⟩ h) (G:Gr E L P vs w L1 vs1 w1) (A:LftF E L1 P m d vs1 w1 w2 h ⟨l,fr.at_,Vl.nil,Vl.nil⟩):PlR E L P m d vs fr U w a (.returned U) w2:=by rw [ha];exact ⟨rfl,G.comp A⟩
theorem rt1 {f:Fi}{input:List Int}{m:Me}{a b c n:Int}{args:List Int}{fr:Rf}{h:Hp}:rstep f input m ⟨1,a,b,c,n,args⟩ fr h=rset fr a ⟨1,n⟩ h:=rfl
theorem rt2 {f:Fi}{input:List Int}{m:Me}{a b c n:Int}{args:List Int}{fr:Rf}{h:Hp}:rstep f input m ⟨2,a,b,c,n,args⟩ fr h=rset fr a ⟨2,n⟩ h:=rfl
theorem rt3 {f:Fi}{input:List Int}{m:Me}{a b c n:Int}{args:List Int}{fr:Rf}{h:Hp}:rstep f input m ⟨3,a,b,c,n,args⟩ fr h=rset fr a ⟨3,-1⟩ h:=rfl
theorem rt4 {f:Fi}{input:List Int}{m:Me}{a b c n:Int}{args:List Int}{fr:Rf}{h:Hp}:rstep f input m ⟨4,a,b,c,n,args⟩ fr h=rkind (rd fr b) c h (rset fr a (rd fr b) h):=rfl
theorem rt5 {f:Fi}{input:List Int}{m:Me}{a b c n:Int}{args:List Int}{fr:Rf}{h:Hp}:rstep f input m ⟨5,a,b,c,n,args⟩ fr h=(reckon f.classes (rd fr b) (rd fr c) 1 n h).act fun v h=>rset fr a v h:=rfl
theorem rt6 {f:Fi}{input:List Int}{m:Me}{a b c n:Int}{args:List Int}{fr:Rf}{h:Hp}:rstep f input m ⟨6,a,b,c,n,args⟩ fr h=(reckon f.classes (rd fr b) (rd fr c) 2 n h).act fun v h=>rset fr a v h:=rfl
theorem rt7 {f:Fi}{input:List Int}{m:Me}{a b c n:Int}{args:List Int}{fr:Rf}{h:Hp}:rstep f input m ⟨7,a,b,c,n,args⟩ fr h=rkind (rd fr b) 1 h (rset fr a ⟨2,(rd fr b).n⟩ h):=rfl
theorem rt8 {f:Fi}{input:List Int}{m:Me}{a b c n:Int}{args:List Int}{fr:Rf}{h:Hp}:rstep f input m ⟨8,a,b,c,n,args⟩ fr h=rkind (rd fr b) 2 h (rset fr a ⟨1,wrap32 (rd fr b).n⟩ h):=rfl
theorem rt9 {f:Fi}{input:List Int}{m:Me}{a b c n:Int}{args:List Int}{fr:Rf}{h:Hp}:rstep f input m ⟨9,a,b,c,n,args⟩ fr h=rkind (rd fr b) 2 h (rkind (rd fr c) 2 h (rset fr a ⟨1,Num.cmp (rd fr b).n (rd fr c).n⟩ h)):=rfl
theorem rt13 {f:Fi}{input:List Int}{m:Me}{a b c n:Int}{args:List Int}{fr:Rf}{h:Hp}:rstep f input m ⟨13,a,b,c,n,args⟩ fr h=(new f.classes b h).act fun v h=>rset fr a v h:=rfl
theorem rt14 {f:Fi}{input:List Int}{m:Me}{a b c n:Int}{args:List Int}{fr:Rf}{h:Hp}:rstep f input m ⟨14,a,b,c,n,args⟩ fr h=rkind (rd fr b) 3 h ((get f.classes (rd fr b) c n h).act fun v h=>rset fr a v h):=rfl
theorem rt15 {f:Fi}{input:List Int}{m:Me}{a b c n:Int}{args:List Int}{fr:Rf}{h:Hp}:rstep f input m ⟨15,a,b,c,n,args⟩ fr h=rkind (rd fr b) 3 h (rkind (rd fr a) (ftype f.classes c n).kind h ((put f.classes (rd fr b) c n (rd fr a) (ftype f.classes c n) h).act fun _ h=>rgo fr (fr.at_+1) h)):=rfl
theorem rt16 {f:Fi}{input:List Int}{m:Me}{a b c n:Int}{args:List Int}{fr:Rf}{h:Hp}:rstep f input m ⟨16,a,b,c,n,args⟩ fr h=rkind (rd fr a) 3 h ((cast f.classes (rd fr a) b h).act fun _ h=>rgo fr (fr.at_+1) h):=rfl
theorem rt17 {f:Fi}{input:List Int}{m:Me}{a b c n:Int}{args:List Int}{fr:Rf}{h:Hp}:rstep f input m ⟨17,a,b,c,n,args⟩ fr h=rkind (rd fr b) 3 h ((isV f.classes (rd fr b) c h).act fun v h=>rset fr a v h):=rfl
theorem rt23 {f:Fi}{input:List Int}{m:Me}{a b c n:Int}{args:List Int}{fr:Rf}{h:Hp}:rstep f input m ⟨23,a,b,c,n,args⟩ fr h=rkind (rd fr a) b h ((emit (rd fr a) b h).act fun _ h=>rgo fr (fr.at_+1) h):=rfl
theorem rt24 {f:Fi}{input:List Int}{m:Me}{a b c n:Int}{args:List Int}{fr:Rf}{h:Hp}:rstep f input m ⟨24,a,b,c,n,args⟩ fr h=(takeIn input h).act fun v h=>rset fr a v h:=rfl
end
end Hpr
namespace Hpr
open Num Rd D Run Mem HierW Hpw
section
variable {E:Ev}{w w' w1 w2:World}{L L' L1:Lay}{h h' h1 h2:Hp}{d:Nat}{P:PS}{m:Me}{vs vs1:Value}{rg:List Vl}{ap:Nat}
set_option maxRecDepth 100000 in
theorem pl1 (S:ST E w L P m d h ⟨rg,ap,Vl.nil,Vl.nil⟩ vs) (hP:Paired rg) (h1000:rg.length≤1000) (a b c n:Int) (args:List Int) (sa:Option Addr) (sn sc:Nat) (ha0:0≤a) (haw:a.toNat+1≤rg.length) :
  Calls Tryz.prog 151 #[.pointer (some ⟨P.cb,0,none⟩),.agg #[.int .i64 1,.int .i64 a,.int .i64 b,.int .i64 c,.int .i64 n,.slice sa sn sc]] w (PlR E L P m d vs ⟨rg,ap,Vl.nil,Vl.nil⟩ (.tuple #[]) w (oA (rstep E.f E.input m ⟨1,a,b,c,n,args⟩ ⟨rg,ap,Vl.nil,Vl.nil⟩ h))):=by
 obtain ⟨ka,rfl⟩:∃ k:Nat,a=(k:Int):=⟨a.toNat,by omega⟩
 rw [rt1];have HS:=Lib.hid S;have hcb:=S.cbw;have hcb1:P.cb < w.heap.size+1:=by omega
 have nf:=S.fo_new (Nat.le_refl _);have c0:w.cell? ⟨P.cb,0,none⟩=some (.pointer (some ⟨E.hb,0,none⟩)):=S.c0;have c9:w.cell? ⟨P.cb,9,none⟩=some (.slice (some ⟨P.lb,0,none⟩) rg.length rg.length):=S.c9;have hfl:=fieldN;clear S
 go_enter Tryz.func151,Tryz.ntmps151
 go_wp2_with (go_at_call 191;refine (writeR (HS.out.below (by exact Rd.byB)) hP ka ⟨1,n⟩ (by simp [width] at haw ⊢;exact haw) h1000).mono ?_;rintro e w2 ⟨rfl,A⟩)
 go_end0
 exact plr_goE rfl (Gr.of_below (by exact Rd.byB)) A
set_option maxRecDepth 100000 in
theorem pl2 (S:ST E w L P m d h ⟨rg,ap,Vl.nil,Vl.nil⟩ vs) (hP:Paired rg) (h1000:rg.length≤1000) (a b c n:Int) (args:List Int) (sa:Option Addr) (sn sc:Nat) (ha0:0≤a) (haw:a.toNat+2≤rg.length) :
  Calls Tryz.prog 151 #[.pointer (some ⟨P.cb,0,none⟩),.agg #[.int .i64 2,.int .i64 a,.int .i64 b,.int .i64 c,.int .i64 n,.slice sa sn sc]] w (PlR E L P m d vs ⟨rg,ap,Vl.nil,Vl.nil⟩ (.tuple #[]) w (oA (rstep E.f E.input m ⟨2,a,b,c,n,args⟩ ⟨rg,ap,Vl.nil,Vl.nil⟩ h))):=by
 obtain ⟨ka,rfl⟩:∃ k:Nat,a=(k:Int):=⟨a.toNat,by omega⟩
 rw [rt2];have HS:=Lib.hid S;have hcb:=S.cbw;have hcb1:P.cb < w.heap.size+1:=by omega
 have nf:=S.fo_new (Nat.le_refl _);have c0:w.cell? ⟨P.cb,0,none⟩=some (.pointer (some ⟨E.hb,0,none⟩)):=S.c0;have c9:w.cell? ⟨P.cb,9,none⟩=some (.slice (some ⟨P.lb,0,none⟩) rg.length rg.length):=S.c9;have hfl:=fieldN;clear S
 go_enter Tryz.func151,Tryz.ntmps151
 go_wp2_with (go_at_call 191;refine (writeR (HS.out.below (by exact Rd.byB)) hP ka ⟨2,n⟩ (by simp [width] at haw ⊢;exact haw) h1000).mono ?_;rintro e w2 ⟨rfl,A⟩)
 go_end0
 exact plr_goE rfl (Gr.of_below (by exact Rd.byB)) A
set_option maxRecDepth 100000 in
theorem pl3 (S:ST E w L P m d h ⟨rg,ap,Vl.nil,Vl.nil⟩ vs) (hP:Paired rg) (h1000:rg.length≤1000) (a b c n:Int) (args:List Int) (sa:Option Addr) (sn sc:Nat) (ha0:0≤a) (haw:a.toNat+1≤rg.length) :
  Calls Tryz.prog 151 #[.pointer (some ⟨P.cb,0,none⟩),.agg #[.int .i64 3,.int .i64 a,.int .i64 b,.int .i64 c,.int .i64 n,.slice sa sn sc]] w (PlR E L P m d vs ⟨rg,ap,Vl.nil,Vl.nil⟩ (.tuple #[]) w (oA (rstep E.f E.input m ⟨3,a,b,c,n,args⟩ ⟨rg,ap,Vl.nil,Vl.nil⟩ h))):=by
 obtain ⟨ka,rfl⟩:∃ k:Nat,a=(k:Int):=⟨a.toNat,by omega⟩
 rw [rt3];have HS:=Lib.hid S;have hcb:=S.cbw;have hcb1:P.cb < w.heap.size+1:=by omega
 have nf:=S.fo_new (Nat.le_refl _);have c0:w.cell? ⟨P.cb,0,none⟩=some (.pointer (some ⟨E.hb,0,none⟩)):=S.c0;have c9:w.cell? ⟨P.cb,9,none⟩=some (.slice (some ⟨P.lb,0,none⟩) rg.length rg.length):=S.c9;have hfl:=fieldN;clear S
 go_enter Tryz.func151,Tryz.ntmps151
 go_wp2_with (go_at_call 191;refine (writeR (HS.out.below (by exact Rd.byB)) hP ka ⟨3,-1⟩ (by simp [width] at haw ⊢;exact haw) h1000).mono ?_;rintro e w2 ⟨rfl,A⟩)
 go_end0
 exact plr_goE rfl (Gr.of_below (by exact Rd.byB)) A
set_option maxRecDepth 100000 in
theorem pl7 (S:ST E w L P m d h ⟨rg,ap,Vl.nil,Vl.nil⟩ vs) (hP:Paired rg) (h1000:rg.length≤1000) (a b c n:Int) (args:List Int) (sa:Option Addr) (sn sc:Nat) (ha0:0≤a) (haw:a.toNat+2≤rg.length) (hb0:0≤b) (hb':b.toNat < rg.length) :
  Calls Tryz.prog 151 #[.pointer (some ⟨P.cb,0,none⟩),.agg #[.int .i64 7,.int .i64 a,.int .i64 b,.int .i64 c,.int .i64 n,.slice sa sn sc]] w (PlR E L P m d vs ⟨rg,ap,Vl.nil,Vl.nil⟩ (.tuple #[]) w (oA (rstep E.f E.input m ⟨7,a,b,c,n,args⟩ ⟨rg,ap,Vl.nil,Vl.nil⟩ h))):=by
 obtain ⟨ka,rfl⟩:∃ k:Nat,a=(k:Int):=⟨a.toNat,by omega⟩
 obtain ⟨kb,rfl⟩:∃ k:Nat,b=(k:Int):=⟨b.toNat,by omega⟩
 obtain ⟨⟨bk,bn⟩,hxb⟩:∃ x,Hid (rg.getD kb Vl.nil=x):=⟨_,Lib.hid rfl⟩;have hrb:rd ⟨rg,ap,Vl.nil,Vl.nil⟩ (kb:Int)=⟨bk,bn⟩:=by unfold rd;rw [Int.toNat_natCast];exact hxb.out
 rw [rt7,hrb];simp only [Int.toNat_natCast] at hb' haw;have HS:=Lib.hid S;have hcb:=S.cbw;have hcb1:P.cb < w.heap.size+1:=by omega
 have nf:=S.fo_new (Nat.le_refl _);have c0:w.cell? ⟨P.cb,0,none⟩=some (.pointer (some ⟨E.hb,0,none⟩)):=S.c0;have c9:w.cell? ⟨P.cb,9,none⟩=some (.slice (some ⟨P.lb,0,none⟩) rg.length rg.length):=S.c9;have hfl:=fieldN;clear S
 go_enter Tryz.func151,Tryz.ntmps151
 go_wp2_with fail
 refine Drawn.hd (fun w'=>w'.cell? ⟨w.heap.size,1,none⟩=some (.int .i64 ka)∧w'.cell? ⟨w.heap.size,2,none⟩=some (.int .i64 kb)) (h:=fun hHeld=>?_);refine dT 0 94 ?_;refine dT 1 95 ?_;refine dT 2 96 ?_;refine dT 3 97 ?_;refine dT 4 98 ?_;refine dT 5 99 ?_;refine Drawn.cl 6 (fun K hK=>?_);go_simp;refine (readR (HS.out.below (by exact Rd.byB)) kb hb' h1000 ⟨bk,bn⟩ hxb.out 1).mono ?_
 rintro e w2 ⟨⟨qb,rfl⟩ | ⟨qb,rfl⟩,hb⟩
 ·simp only at qb;subst qb;have kk:∀ (b o:Nat) (u:Value),World.cell? _ ⟨b,o,none⟩=some u→w2.cell? ⟨b,o,none⟩=some u:=fun b o u hc=>kept hb (cell_lt hc) hc;have yw2_0:=kk (w.heap.size) (1) (.int .i64 ka) (by go_simp)
  have yw2_1:=kk (w.heap.size) (2) (.int .i64 kb) (by go_simp)
  clear kk;have HBw2:=Lib.hid (show Below w.heap.size w w2 from Below.trans (by exact Rd.byB) (hb.mono Rd.byL))
  clear hb
  go_wp2_with fail
  refine Drawn.bk hK (hS:=by (try dsimp only);exact ⟨yw2_0,yw2_1⟩) (h:=fun hHeld=>?_)
  clear hK K;refine dT 7 101 ?_;refine Drawn.cl 8 (fun K hK=>?_);go_simp;refine (writeR (HS.out.below HBw2.out) hP ka ⟨2,bn⟩ (by simp [width] at haw ⊢;exact haw) h1000).mono ?_
  rintro e w3 ⟨rfl,A⟩;have g1:=A.box (b:=w.heap.size) (o:=1) (v:=.int .i64 ka) (by go_simp) nf
  have g2:=A.box (b:=w.heap.size) (o:=2) (v:=.int .i64 kb) (by go_simp) nf
  go_wp2_with fail
  refine Drawn.bk hK (hS:=by (try dsimp only);exact ⟨g1,g2⟩) (h:=fun hHeld=>?_)
  clear hK K;refine dN ?_
  go_wp2
  go_end0
  exact plr_goE (by unfold rkind;rw [if_pos rfl];rfl) (Gr.of_below HBw2.out) A
 ·have HBw2:=Lib.hid (show Below w.heap.size w w2 from Below.trans (by exact Rd.byB) (hb.mono Rd.byL))
  unfold pan;refine And.intro rfl ?_;exact plr_stuckE (by simp [rkind,qb,oA]) (Gr.of_below (by exact HBw2.out)) (HS.out.below HBw2.out)
set_option maxRecDepth 100000 in
theorem pl8 (S:ST E w L P m d h ⟨rg,ap,Vl.nil,Vl.nil⟩ vs) (hP:Paired rg) (h1000:rg.length≤1000) (a b c n:Int) (args:List Int) (sa:Option Addr) (sn sc:Nat) (ha0:0≤a) (haw:a.toNat+1≤rg.length) (hb0:0≤b) (hb':b.toNat < rg.length) :
  Calls Tryz.prog 151 #[.pointer (some ⟨P.cb,0,none⟩),.agg #[.int .i64 8,.int .i64 a,.int .i64 b,.int .i64 c,.int .i64 n,.slice sa sn sc]] w (PlR E L P m d vs ⟨rg,ap,Vl.nil,Vl.nil⟩ (.tuple #[]) w (oA (rstep E.f E.input m ⟨8,a,b,c,n,args⟩ ⟨rg,ap,Vl.nil,Vl.nil⟩ h))):=by
 obtain ⟨ka,rfl⟩:∃ k:Nat,a=(k:Int):=⟨a.toNat,by omega⟩
 obtain ⟨kb,rfl⟩:∃ k:Nat,b=(k:Int):=⟨b.toNat,by omega⟩
 obtain ⟨⟨bk,bn⟩,hxb⟩:∃ x,Hid (rg.getD kb Vl.nil=x):=⟨_,Lib.hid rfl⟩;have hrb:rd ⟨rg,ap,Vl.nil,Vl.nil⟩ (kb:Int)=⟨bk,bn⟩:=by unfold rd;rw [Int.toNat_natCast];exact hxb.out
 rw [rt8,hrb];simp only [Int.toNat_natCast] at hb' haw;have HS:=Lib.hid S;have hcb:=S.cbw;have hcb1:P.cb < w.heap.size+1:=by omega
 have nf:=S.fo_new (Nat.le_refl _);have c0:w.cell? ⟨P.cb,0,none⟩=some (.pointer (some ⟨E.hb,0,none⟩)):=S.c0;have c9:w.cell? ⟨P.cb,9,none⟩=some (.slice (some ⟨P.lb,0,none⟩) rg.length rg.length):=S.c9;have hfl:=fieldN;clear S
 go_enter Tryz.func151,Tryz.ntmps151
 go_wp2_with fail
 refine Drawn.hd (fun w'=>w'.cell? ⟨w.heap.size,1,none⟩=some (.int .i64 ka)∧w'.cell? ⟨w.heap.size,2,none⟩=some (.int .i64 kb)) (h:=fun hHeld=>?_);refine dT 0 105 ?_;refine dT 1 106 ?_;refine dT 2 107 ?_;refine dT 3 108 ?_;refine dT 4 109 ?_;refine dT 5 110 ?_;refine Drawn.cl 6 (fun K hK=>?_);go_simp;refine (readR (HS.out.below (by exact Rd.byB)) kb hb' h1000 ⟨bk,bn⟩ hxb.out 2).mono ?_
 rintro e w2 ⟨⟨qb,rfl⟩ | ⟨qb,rfl⟩,hb⟩
 ·simp only at qb;subst qb;have kk:∀ (b o:Nat) (u:Value),World.cell? _ ⟨b,o,none⟩=some u→w2.cell? ⟨b,o,none⟩=some u:=fun b o u hc=>kept hb (cell_lt hc) hc;have yw2_0:=kk (w.heap.size) (1) (.int .i64 ka) (by go_simp)
  have yw2_1:=kk (w.heap.size) (2) (.int .i64 kb) (by go_simp)
  clear kk;have HBw2:=Lib.hid (show Below w.heap.size w w2 from Below.trans (by exact Rd.byB) (hb.mono Rd.byL))
  clear hb
  go_wp2_with fail
  refine Drawn.bk hK (hS:=by (try dsimp only);exact ⟨yw2_0,yw2_1⟩) (h:=fun hHeld=>?_)
  clear hK K;refine dT 7 112 ?_;refine Drawn.cl 8 (fun K hK=>?_);go_simp;refine (NumW.narrow _ _).mono ?_;rintro e w9 ⟨rfl,rfl⟩
  go_wp2_with fail
  refine Drawn.bk hK (hS:=by (try dsimp only);exact ⟨yw2_0,yw2_1⟩) (h:=fun hHeld=>?_)
  clear hK K;refine Drawn.cl 9 (fun K hK=>?_);go_simp;refine (writeR (HS.out.below HBw2.out) hP ka ⟨1,wrap32 bn⟩ (by simp [width] at haw ⊢;exact haw) h1000).mono ?_
  rintro e w3 ⟨rfl,A⟩;have g1:=A.box (b:=w.heap.size) (o:=1) (v:=.int .i64 ka) (by go_simp) nf
  have g2:=A.box (b:=w.heap.size) (o:=2) (v:=.int .i64 kb) (by go_simp) nf
  go_wp2_with fail
  refine Drawn.bk hK (hS:=by (try dsimp only);exact ⟨g1,g2⟩) (h:=fun hHeld=>?_)
  clear hK K;refine dN ?_
  go_wp2
  go_end0
  exact plr_goE (by unfold rkind;rw [if_pos rfl];rfl) (Gr.of_below HBw2.out) A
 ·have HBw2:=Lib.hid (show Below w.heap.size w w2 from Below.trans (by exact Rd.byB) (hb.mono Rd.byL))
  unfold pan;refine And.intro rfl ?_;exact plr_stuckE (by simp [rkind,qb,oA]) (Gr.of_below (by exact HBw2.out)) (HS.out.below HBw2.out)
end
end Hpr
namespace Hpr
open Num Rd D Run Mem HierW Hpw
section
variable {E:Ev}{w w' w1 w2:World}{L L' L1:Lay}{h h' h1 h2:Hp}{d:Nat}{P:PS}{m:Me}{vs vs1:Value}{rg:List Vl}{ap:Nat}
set_option maxRecDepth 100000 in
theorem pl4 (S:ST E w L P m d h ⟨rg,ap,Vl.nil,Vl.nil⟩ vs) (hP:Paired rg) (h1000:rg.length≤1000) (a b c n:Int) (args:List Int) (sa:Option Addr) (sn sc:Nat) (ha0:0≤a) (haw:(rd ⟨rg,ap,Vl.nil,Vl.nil⟩ b).kind=c→a.toNat+width (rd ⟨rg,ap,Vl.nil,Vl.nil⟩ b)≤rg.length) (hb0:0≤b) (hb':b.toNat < rg.length) :
  Calls Tryz.prog 151 #[.pointer (some ⟨P.cb,0,none⟩),.agg #[.int .i64 4,.int .i64 a,.int .i64 b,.int .i64 c,.int .i64 n,.slice sa sn sc]] w (PlR E L P m d vs ⟨rg,ap,Vl.nil,Vl.nil⟩ (.tuple #[]) w (oA (rstep E.f E.input m ⟨4,a,b,c,n,args⟩ ⟨rg,ap,Vl.nil,Vl.nil⟩ h))):=by
 obtain ⟨ka,rfl⟩:∃ k:Nat,a=(k:Int):=⟨a.toNat,by omega⟩
 obtain ⟨kb,rfl⟩:∃ k:Nat,b=(k:Int):=⟨b.toNat,by omega⟩
 obtain ⟨⟨bk,bn⟩,hxb⟩:∃ x,Hid (rg.getD kb Vl.nil=x):=⟨_,Lib.hid rfl⟩;have hrb:rd ⟨rg,ap,Vl.nil,Vl.nil⟩ (kb:Int)=⟨bk,bn⟩:=by unfold rd;rw [Int.toNat_natCast];exact hxb.out
 rw [rt4];rw [hrb] at haw ⊢;simp only [Int.toNat_natCast] at haw hb';have HS:=Lib.hid S;have hcb:=S.cbw;have hcb1:P.cb < w.heap.size+1:=by omega
 have nf:=S.fo_new (Nat.le_refl _);have c0:w.cell? ⟨P.cb,0,none⟩=some (.pointer (some ⟨E.hb,0,none⟩)):=S.c0;have c9:w.cell? ⟨P.cb,9,none⟩=some (.slice (some ⟨P.lb,0,none⟩) rg.length rg.length):=S.c9;have hfl:=fieldN;clear S
 go_enter Tryz.func151,Tryz.ntmps151
 go_wp2_with fail
 refine Drawn.hd (fun w'=>w'.cell? ⟨P.cb,9,none⟩=some (.slice (some ⟨P.lb,0,none⟩) rg.length rg.length)∧w'.cell? ⟨w.heap.size,1,none⟩=some (.int .i64 ka)∧w'.cell? ⟨w.heap.size,2,none⟩=some (.int .i64 kb)∧w'.cell? ⟨w.heap.size,3,none⟩=some (.int .i64 c)) (h:=fun hHeld=>?_);refine dT 0 31 ?_;refine dT 1 32 ?_;refine dT 2 33 ?_;refine dT 3 34 ?_;refine dT 4 35 ?_;refine dT 5 36 ?_;refine dT 6 37 ?_;refine dT 7 38 ?_;refine dT 8 39 ?_;refine dT 9 40 ?_;refine dT 10 41 ?_;refine Drawn.cl 11 (fun K hK=>?_);go_simp;refine (readR (HS.out.below (by exact Rd.byB)) kb hb' h1000 ⟨bk,bn⟩ hxb.out c).mono ?_
 rintro e w1 ⟨⟨qb,rfl⟩ | ⟨qb,rfl⟩,hb⟩
 ·simp only at qb;have rb:=Lib.hid qb;clear qb;have kk:∀ (b o:Nat) (u:Value),World.cell? _ ⟨b,o,none⟩=some u→w1.cell? ⟨b,o,none⟩=some u:=fun b o u hc=>kept hb (cell_lt hc) hc;have yw1_0:=kk (P.cb) (9) (.slice (some ⟨P.lb,0,none⟩) rg.length rg.length) (by go_simp)
  have yw1_1:=kk (w.heap.size) (1) (.int .i64 ka) (by go_simp)
  have yw1_2:=kk (w.heap.size) (2) (.int .i64 kb) (by go_simp)
  have yw1_3:=kk (w.heap.size) (3) (.int .i64 c) (by go_simp)
  clear kk;have Hw1:=Lib.hid (show Below w.heap.size w w1 from Below.trans (by exact Rd.byB) (hb.mono Rd.byL))
  clear hb
  go_wp2_with fail
  refine Drawn.bk hK (hS:=by (try dsimp only);exact ⟨yw1_0,yw1_1,yw1_2,yw1_3⟩) (h:=fun hHeld=>?_)
  clear hK K;refine Drawn.cl 12 (fun K hK=>?_);go_simp;refine (storeR (HS.out.below Hw1.out) hP ka ⟨bk,bn⟩ (haw rb.out) h1000).mono ?_;rintro e w2 ⟨rfl,A⟩;obtain ⟨L70,v70,G70,S70⟩:=A.opn;have u0:w2.cell? ⟨P.cb,9,none⟩=some (.slice (some ⟨P.lb,0,none⟩) rg.length rg.length):=by have:=S70.c9;rw [Run.store_len] at this;exact this
  have u1:=A.box (b:=w.heap.size) (o:=1) (v:=.int .i64 ka) (by go_simp) nf
  have u2:=A.box (b:=w.heap.size) (o:=2) (v:=.int .i64 kb) (by go_simp) nf
  have u3:=A.box (b:=w.heap.size) (o:=3) (v:=.int .i64 c) (by go_simp) nf
  go_wp2_with fail
  refine Drawn.bk hK (hS:=by (try dsimp only);exact ⟨u0,u1,u2,u3⟩) (h:=fun hHeld=>?_)
  clear hK K;refine dN ?_
  go_wp2
  go_end0
  exact plr_goE (by unfold rkind;rw [if_pos rb.out];rfl) (Gr.of_below Hw1.out) A
 ·have Hw1:=Lib.hid (show Below w.heap.size w w1 from Below.trans (by exact Rd.byB) (hb.mono Rd.byL))
  unfold pan;refine And.intro rfl ?_;exact plr_stuckE (by simp [rkind,qb,oA]) (Gr.of_below Hw1.out) (HS.out.below Hw1.out)
set_option maxRecDepth 100000 in
theorem pl5 (S:ST E w L P m d h ⟨rg,ap,Vl.nil,Vl.nil⟩ vs) (hP:Paired rg) (h1000:rg.length≤1000) (a b c n:Int) (args:List Int) (sa:Option Addr) (sn sc:Nat) (hm:Hier.may E.f.classes=true) (ha0:0≤a) (hb0:0≤b) (hb':b.toNat < rg.length) (hc0:0≤c) (hc':c.toNat < rg.length) (hok:Ok (rd ⟨rg,ap,Vl.nil,Vl.nil⟩ b).n) (hw:∀ v h',Run.reckon E.f.classes (rd ⟨rg,ap,Vl.nil,Vl.nil⟩ b) (rd ⟨rg,ap,Vl.nil,Vl.nil⟩ c) 1 n h=.ok v h'→a.toNat+width v≤rg.length) :
  Calls Tryz.prog 151 #[.pointer (some ⟨P.cb,0,none⟩),.agg #[.int .i64 5,.int .i64 a,.int .i64 b,.int .i64 c,.int .i64 n,.slice sa sn sc]] w (PlR E L P m d vs ⟨rg,ap,Vl.nil,Vl.nil⟩ (.tuple #[]) w (oA (rstep E.f E.input m ⟨5,a,b,c,n,args⟩ ⟨rg,ap,Vl.nil,Vl.nil⟩ h))):=by
 obtain ⟨ka,rfl⟩:∃ k:Nat,a=(k:Int):=⟨a.toNat,by omega⟩
 obtain ⟨kb,rfl⟩:∃ k:Nat,b=(k:Int):=⟨b.toNat,by omega⟩
 obtain ⟨kc,rfl⟩:∃ k:Nat,c=(k:Int):=⟨c.toNat,by omega⟩
 obtain ⟨⟨bk,bn⟩,hxb⟩:∃ x,Hid (rg.getD kb Vl.nil=x):=⟨_,Lib.hid rfl⟩;have hrb:rd ⟨rg,ap,Vl.nil,Vl.nil⟩ (kb:Int)=⟨bk,bn⟩:=by unfold rd;rw [Int.toNat_natCast];exact hxb.out
 obtain ⟨⟨ck,cn⟩,hxc⟩:∃ x,Hid (rg.getD kc Vl.nil=x):=⟨_,Lib.hid rfl⟩;have hrc:rd ⟨rg,ap,Vl.nil,Vl.nil⟩ (kc:Int)=⟨ck,cn⟩:=by unfold rd;rw [Int.toNat_natCast];exact hxc.out
 rw [rt5];rw [hrb] at hok;rw [hrb,hrc] at hw ⊢;simp only [Int.toNat_natCast] at hw hb' hc';obtain ⟨r,hr⟩:∃ r,Hid (Run.reckon E.f.classes ⟨bk,bn⟩ ⟨ck,cn⟩ 1 n h=r):=⟨_,Lib.hid rfl⟩;rw [hr.out];replace hw:=Lib.hid hw;have HS:=Lib.hid S;have hcb:=S.cbw;have hcb1:P.cb < w.heap.size+1:=by omega
 have nf:=S.fo_new (Nat.le_refl _);have c0:w.cell? ⟨P.cb,0,none⟩=some (.pointer (some ⟨E.hb,0,none⟩)):=S.c0;have c9:w.cell? ⟨P.cb,9,none⟩=some (.slice (some ⟨P.lb,0,none⟩) rg.length rg.length):=S.c9;have hfl:=fieldN;clear S
 go_enter Tryz.func151,Tryz.ntmps151
 go_wp2_with fail
 refine Drawn.hd (fun w'=>w'.cell? ⟨P.cb,0,none⟩=some (.pointer (some ⟨E.hb,0,none⟩))∧w'.cell? ⟨P.cb,9,none⟩=some (.slice (some ⟨P.lb,0,none⟩) rg.length rg.length)∧w'.cell? ⟨w.heap.size,1,none⟩=some (.int .i64 ka)∧w'.cell? ⟨w.heap.size,2,none⟩=some (.int .i64 kb)∧w'.cell? ⟨w.heap.size,3,none⟩=some (.int .i64 kc)∧w'.cell? ⟨w.heap.size,4,none⟩=some (.int .i64 n)) (h:=fun hHeld=>?_);refine dT 0 46 ?_;refine dT 1 47 ?_;refine dT 2 48 ?_;refine dT 3 49 ?_;refine dT 4 50 ?_;refine dT 5 51 ?_;refine dT 6 52 ?_;refine dT 7 53 ?_;refine dT 8 54 ?_;refine dT 9 55 ?_;refine dT 10 56 ?_;refine dT 11 57 ?_;refine dT 12 58 ?_;refine dT 14 60 ?_;refine dT 15 61 ?_;refine dT 16 62 ?_;refine dT 18 64 ?_;refine dT 19 65 ?_;refine Drawn.cl 13 (fun K hK=>?_);go_simp;refine (readR (HS.out.below (by exact Rd.byB)) kb hb' h1000 ⟨bk,bn⟩ hxb.out 1).mono ?_
 rintro e w3 ⟨⟨qb,rfl⟩ | ⟨qb,rfl⟩,hb⟩
 ·simp only at qb;have rb:=Lib.hid qb;clear qb;have kk:∀ (b o:Nat) (u:Value),World.cell? _ ⟨b,o,none⟩=some u→w3.cell? ⟨b,o,none⟩=some u:=fun b o u hc=>kept hb (cell_lt hc) hc;have yw3_0:=kk (P.cb) (0) (.pointer (some ⟨E.hb,0,none⟩)) (by go_simp)
  have yw3_1:=kk (P.cb) (9) (.slice (some ⟨P.lb,0,none⟩) rg.length rg.length) (by go_simp)
  have yw3_2:=kk (w.heap.size) (1) (.int .i64 ka) (by go_simp)
  have yw3_3:=kk (w.heap.size) (2) (.int .i64 kb) (by go_simp)
  have yw3_4:=kk (w.heap.size) (3) (.int .i64 kc) (by go_simp)
  have yw3_5:=kk (w.heap.size) (4) (.int .i64 n) (by go_simp)
  clear kk;have Hw3:=Lib.hid (show Below w.heap.size w w3 from Below.trans (by exact Rd.byB) (hb.mono Rd.byL))
  clear hb
  go_wp2_with fail
  refine Drawn.bk hK (hS:=by (try dsimp only);exact ⟨yw3_0,yw3_1,yw3_2,yw3_3,yw3_4,yw3_5⟩) (h:=fun hHeld=>?_)
  clear hK K;refine Drawn.cl 17 (fun K hK=>?_);go_simp;refine (readR (HS.out.below Hw3.out) kc hc' h1000 ⟨ck,cn⟩ hxc.out 1).mono ?_;rintro e w4 ⟨⟨qc,rfl⟩ | ⟨qc,rfl⟩,hb⟩
  ·simp only at qc;have rc:=Lib.hid qc;clear qc;have kk:∀ (b o:Nat) (u:Value),World.cell? _ ⟨b,o,none⟩=some u→w4.cell? ⟨b,o,none⟩=some u:=fun b o u hc=>kept hb (cell_lt hc) hc;have yw4_0:=kk (P.cb) (0) (.pointer (some ⟨E.hb,0,none⟩)) (by go_simp)
   have yw4_1:=kk (P.cb) (9) (.slice (some ⟨P.lb,0,none⟩) rg.length rg.length) (by go_simp)
   have yw4_2:=kk (w.heap.size) (1) (.int .i64 ka) (by go_simp)
   have yw4_3:=kk (w.heap.size) (2) (.int .i64 kb) (by go_simp)
   have yw4_4:=kk (w.heap.size) (3) (.int .i64 kc) (by go_simp)
   have yw4_5:=kk (w.heap.size) (4) (.int .i64 n) (by go_simp)
   clear kk;have Hw4:=Lib.hid (show Below w.heap.size w w4 from Hw3.out.trans (Below.trans (by exact Rd.byB) (hb.mono (by have:=Hw3.out.size;first | exact this | (simp;omega)))))
   clear hb
   go_wp2_with fail
   refine Drawn.bk hK (hS:=by (try dsimp only);exact ⟨yw4_0,yw4_1,yw4_2,yw4_3,yw4_4,yw4_5⟩) (h:=fun hHeld=>?_)
   clear hK K;refine Drawn.cl 20 (fun K hK=>?_);go_simp;refine (reckonI (HS.out.below Hw4.out).H hm ⟨bk,bn⟩ ⟨ck,cn⟩ n hok).mono ?_;rw [hr.out];rintro e w5 hR
   cases r with
   | thrown o h2 =>
    obtain ⟨rfl,A⟩:=hR;obtain ⟨L5,G5,S5⟩:=Gr.of_heap A (HS.out.below Hw4.out);unfold pan;refine And.intro rfl ?_;exact plr_thrown ((Gr.of_below Hw4.out).trans G5) S5
   | stop c2 h2 =>
    obtain ⟨rfl,A⟩:=hR;obtain ⟨L5,G5,S5⟩:=Gr.of_heap A (HS.out.below Hw4.out);unfold pan;refine And.intro rfl ?_;exact plr_stop ((Gr.of_below Hw4.out).trans G5) S5
   | ok x h2 =>
    obtain ⟨xk,xn⟩:=x;obtain ⟨rfl,A⟩:=hR;unfold vval;obtain ⟨L5,G5,S5⟩:=Gr.of_heap A (HS.out.below Hw4.out);have z0:w5.cell? ⟨P.cb,0,none⟩=some (.pointer (some ⟨E.hb,0,none⟩)):=S5.c0;have z1:w5.cell? ⟨P.cb,9,none⟩=some (.slice (some ⟨P.lb,0,none⟩) rg.length rg.length):=S5.c9;have z2:=G5.cell (b:=w.heap.size) (o:=1) (v:=.int .i64 ka) nf (by go_simp)
    have z3:=G5.cell (b:=w.heap.size) (o:=2) (v:=.int .i64 kb) nf (by go_simp)
    have z4:=G5.cell (b:=w.heap.size) (o:=3) (v:=.int .i64 kc) nf (by go_simp)
    have z5:=G5.cell (b:=w.heap.size) (o:=4) (v:=.int .i64 n) nf (by go_simp)
    have nf5:=G5.nf (by have:=cell_lt yw4_2;first | exact this | (simp;omega)) nf
    have GB:=Lib.hid ((Gr.of_below Hw4.out).trans G5);replace S5:=Lib.hid S5;clear A G5
    go_wp2_with fail
    refine Drawn.bk hK (hS:=by (try dsimp only);exact ⟨z0,z1,z2,z3,z4,z5⟩) (h:=fun hHeld=>?_)
    clear hK K;refine Drawn.cl 21 (fun K hK=>?_);go_simp;refine (storeR S5.out hP ka ⟨xk,xn⟩ (hw.out _ _ hr.out) h1000).mono ?_;rintro e w6 ⟨rfl,A⟩;obtain ⟨L70,v70,G70,S70⟩:=A.opn;have u0:w6.cell? ⟨P.cb,0,none⟩=some (.pointer (some ⟨E.hb,0,none⟩)):=S70.c0;obtain ⟨L71,v71,G71,S71⟩:=A.opn;have u1:w6.cell? ⟨P.cb,9,none⟩=some (.slice (some ⟨P.lb,0,none⟩) rg.length rg.length):=by have:=S71.c9;rw [Run.store_len] at this;exact this
    have u2:=A.box (b:=w.heap.size) (o:=1) (v:=.int .i64 ka) (by go_simp) nf5
    have u3:=A.box (b:=w.heap.size) (o:=2) (v:=.int .i64 kb) (by go_simp) nf5
    have u4:=A.box (b:=w.heap.size) (o:=3) (v:=.int .i64 kc) (by go_simp) nf5
    have u5:=A.box (b:=w.heap.size) (o:=4) (v:=.int .i64 n) (by go_simp) nf5
    go_wp2_with fail
    refine Drawn.bk hK (hS:=by (try dsimp only);exact ⟨u0,u1,u2,u3,u4,u5⟩) (h:=fun hHeld=>?_)
    clear hK K;refine dN ?_
    go_wp2
    go_end0
    exact plr_goE (by rfl) GB.out A
  ·have Hw4:=Lib.hid (show Below w.heap.size w w4 from Hw3.out.trans (Below.trans (by exact Rd.byB) (hb.mono (by have:=Hw3.out.size;first | exact this | (simp;omega)))))
   unfold pan;refine And.intro rfl ?_;exact plr_stuckE (by rw [← hr.out];simp [Run.reckon,qc,oA,Res.act]) (Gr.of_below Hw4.out) (HS.out.below Hw4.out)
 ·have Hw3:=Lib.hid (show Below w.heap.size w w3 from Below.trans (by exact Rd.byB) (hb.mono Rd.byL))
  unfold pan;refine And.intro rfl ?_;exact plr_stuckE (by rw [← hr.out];simp [Run.reckon,qb,oA,Res.act]) (Gr.of_below Hw3.out) (HS.out.below Hw3.out)
set_option maxRecDepth 100000 in
theorem pl6 (S:ST E w L P m d h ⟨rg,ap,Vl.nil,Vl.nil⟩ vs) (hP:Paired rg) (h1000:rg.length≤1000) (a b c n:Int) (args:List Int) (sa:Option Addr) (sn sc:Nat) (hm:Hier.may E.f.classes=true) (ha0:0≤a) (hb0:0≤b) (hb':b.toNat < rg.length) (hc0:0≤c) (hc':c.toNat < rg.length) (hok:Ok (rd ⟨rg,ap,Vl.nil,Vl.nil⟩ b).n) (hw:∀ v h',Run.reckon E.f.classes (rd ⟨rg,ap,Vl.nil,Vl.nil⟩ b) (rd ⟨rg,ap,Vl.nil,Vl.nil⟩ c) 2 n h=.ok v h'→a.toNat+width v≤rg.length) :
  Calls Tryz.prog 151 #[.pointer (some ⟨P.cb,0,none⟩),.agg #[.int .i64 6,.int .i64 a,.int .i64 b,.int .i64 c,.int .i64 n,.slice sa sn sc]] w (PlR E L P m d vs ⟨rg,ap,Vl.nil,Vl.nil⟩ (.tuple #[]) w (oA (rstep E.f E.input m ⟨6,a,b,c,n,args⟩ ⟨rg,ap,Vl.nil,Vl.nil⟩ h))):=by
 obtain ⟨ka,rfl⟩:∃ k:Nat,a=(k:Int):=⟨a.toNat,by omega⟩
 obtain ⟨kb,rfl⟩:∃ k:Nat,b=(k:Int):=⟨b.toNat,by omega⟩
 obtain ⟨kc,rfl⟩:∃ k:Nat,c=(k:Int):=⟨c.toNat,by omega⟩
 obtain ⟨⟨bk,bn⟩,hxb⟩:∃ x,Hid (rg.getD kb Vl.nil=x):=⟨_,Lib.hid rfl⟩;have hrb:rd ⟨rg,ap,Vl.nil,Vl.nil⟩ (kb:Int)=⟨bk,bn⟩:=by unfold rd;rw [Int.toNat_natCast];exact hxb.out
 obtain ⟨⟨ck,cn⟩,hxc⟩:∃ x,Hid (rg.getD kc Vl.nil=x):=⟨_,Lib.hid rfl⟩;have hrc:rd ⟨rg,ap,Vl.nil,Vl.nil⟩ (kc:Int)=⟨ck,cn⟩:=by unfold rd;rw [Int.toNat_natCast];exact hxc.out
 rw [rt6];rw [hrb] at hok;rw [hrb,hrc] at hw ⊢;simp only [Int.toNat_natCast] at hw hb' hc';obtain ⟨r,hr⟩:∃ r,Hid (Run.reckon E.f.classes ⟨bk,bn⟩ ⟨ck,cn⟩ 2 n h=r):=⟨_,Lib.hid rfl⟩;rw [hr.out];replace hw:=Lib.hid hw;have HS:=Lib.hid S;have hcb:=S.cbw;have hcb1:P.cb < w.heap.size+1:=by omega
 have nf:=S.fo_new (Nat.le_refl _);have c0:w.cell? ⟨P.cb,0,none⟩=some (.pointer (some ⟨E.hb,0,none⟩)):=S.c0;have c9:w.cell? ⟨P.cb,9,none⟩=some (.slice (some ⟨P.lb,0,none⟩) rg.length rg.length):=S.c9;have hfl:=fieldN;clear S
 go_enter Tryz.func151,Tryz.ntmps151
 go_wp2_with fail
 refine Drawn.hd (fun w'=>w'.cell? ⟨P.cb,0,none⟩=some (.pointer (some ⟨E.hb,0,none⟩))∧w'.cell? ⟨P.cb,9,none⟩=some (.slice (some ⟨P.lb,0,none⟩) rg.length rg.length)∧w'.cell? ⟨w.heap.size,1,none⟩=some (.int .i64 ka)∧w'.cell? ⟨w.heap.size,2,none⟩=some (.int .i64 kb)∧w'.cell? ⟨w.heap.size,3,none⟩=some (.int .i64 kc)∧w'.cell? ⟨w.heap.size,4,none⟩=some (.int .i64 n)) (h:=fun hHeld=>?_);refine dT 0 70 ?_;refine dT 1 71 ?_;refine dT 2 72 ?_;refine dT 3 73 ?_;refine dT 4 74 ?_;refine dT 5 75 ?_;refine dT 6 76 ?_;refine dT 7 77 ?_;refine dT 8 78 ?_;refine dT 9 79 ?_;refine dT 10 80 ?_;refine dT 11 81 ?_;refine dT 12 82 ?_;refine dT 14 84 ?_;refine dT 15 85 ?_;refine dT 16 86 ?_;refine dT 18 88 ?_;refine dT 19 89 ?_;refine Drawn.cl 13 (fun K hK=>?_);go_simp;refine (readR (HS.out.below (by exact Rd.byB)) kb hb' h1000 ⟨bk,bn⟩ hxb.out 2).mono ?_
 rintro e w7 ⟨⟨qb,rfl⟩ | ⟨qb,rfl⟩,hb⟩
 ·simp only at qb;have rb:=Lib.hid qb;clear qb;have kk:∀ (b o:Nat) (u:Value),World.cell? _ ⟨b,o,none⟩=some u→w7.cell? ⟨b,o,none⟩=some u:=fun b o u hc=>kept hb (cell_lt hc) hc;have yw7_0:=kk (P.cb) (0) (.pointer (some ⟨E.hb,0,none⟩)) (by go_simp)
  have yw7_1:=kk (P.cb) (9) (.slice (some ⟨P.lb,0,none⟩) rg.length rg.length) (by go_simp)
  have yw7_2:=kk (w.heap.size) (1) (.int .i64 ka) (by go_simp)
  have yw7_3:=kk (w.heap.size) (2) (.int .i64 kb) (by go_simp)
  have yw7_4:=kk (w.heap.size) (3) (.int .i64 kc) (by go_simp)
  have yw7_5:=kk (w.heap.size) (4) (.int .i64 n) (by go_simp)
  clear kk;have Hw7:=Lib.hid (show Below w.heap.size w w7 from Below.trans (by exact Rd.byB) (hb.mono Rd.byL))
  clear hb
  go_wp2_with fail
  refine Drawn.bk hK (hS:=by (try dsimp only);exact ⟨yw7_0,yw7_1,yw7_2,yw7_3,yw7_4,yw7_5⟩) (h:=fun hHeld=>?_)
  clear hK K;refine Drawn.cl 17 (fun K hK=>?_);go_simp;refine (readR (HS.out.below Hw7.out) kc hc' h1000 ⟨ck,cn⟩ hxc.out 2).mono ?_;rintro e w8 ⟨⟨qc,rfl⟩ | ⟨qc,rfl⟩,hb⟩
  ·simp only at qc;have rc:=Lib.hid qc;clear qc;have kk:∀ (b o:Nat) (u:Value),World.cell? _ ⟨b,o,none⟩=some u→w8.cell? ⟨b,o,none⟩=some u:=fun b o u hc=>kept hb (cell_lt hc) hc;have yw8_0:=kk (P.cb) (0) (.pointer (some ⟨E.hb,0,none⟩)) (by go_simp)
   have yw8_1:=kk (P.cb) (9) (.slice (some ⟨P.lb,0,none⟩) rg.length rg.length) (by go_simp)
   have yw8_2:=kk (w.heap.size) (1) (.int .i64 ka) (by go_simp)
   have yw8_3:=kk (w.heap.size) (2) (.int .i64 kb) (by go_simp)
   have yw8_4:=kk (w.heap.size) (3) (.int .i64 kc) (by go_simp)
   have yw8_5:=kk (w.heap.size) (4) (.int .i64 n) (by go_simp)
   clear kk;have Hw8:=Lib.hid (show Below w.heap.size w w8 from Hw7.out.trans (Below.trans (by exact Rd.byB) (hb.mono (by have:=Hw7.out.size;first | exact this | (simp;omega)))))
   clear hb
   go_wp2_with fail
   refine Drawn.bk hK (hS:=by (try dsimp only);exact ⟨yw8_0,yw8_1,yw8_2,yw8_3,yw8_4,yw8_5⟩) (h:=fun hHeld=>?_)
   clear hK K;refine Drawn.cl 20 (fun K hK=>?_);go_simp;refine (reckonL (HS.out.below Hw8.out).H hm ⟨bk,bn⟩ ⟨ck,cn⟩ n hok).mono ?_;rw [hr.out];rintro e w9 hR
   cases r with
   | thrown o h2 =>
    obtain ⟨rfl,A⟩:=hR;obtain ⟨L5,G5,S5⟩:=Gr.of_heap A (HS.out.below Hw8.out);unfold pan;refine And.intro rfl ?_;exact plr_thrown ((Gr.of_below Hw8.out).trans G5) S5
   | stop c2 h2 =>
    obtain ⟨rfl,A⟩:=hR;obtain ⟨L5,G5,S5⟩:=Gr.of_heap A (HS.out.below Hw8.out);unfold pan;refine And.intro rfl ?_;exact plr_stop ((Gr.of_below Hw8.out).trans G5) S5
   | ok x h2 =>
    obtain ⟨xk,xn⟩:=x;obtain ⟨rfl,A⟩:=hR;unfold vval;obtain ⟨L5,G5,S5⟩:=Gr.of_heap A (HS.out.below Hw8.out);have z0:w9.cell? ⟨P.cb,0,none⟩=some (.pointer (some ⟨E.hb,0,none⟩)):=S5.c0;have z1:w9.cell? ⟨P.cb,9,none⟩=some (.slice (some ⟨P.lb,0,none⟩) rg.length rg.length):=S5.c9;have z2:=G5.cell (b:=w.heap.size) (o:=1) (v:=.int .i64 ka) nf (by go_simp)
    have z3:=G5.cell (b:=w.heap.size) (o:=2) (v:=.int .i64 kb) nf (by go_simp)
    have z4:=G5.cell (b:=w.heap.size) (o:=3) (v:=.int .i64 kc) nf (by go_simp)
    have z5:=G5.cell (b:=w.heap.size) (o:=4) (v:=.int .i64 n) nf (by go_simp)
    have nf5:=G5.nf (by have:=cell_lt yw8_2;first | exact this | (simp;omega)) nf
    have GB:=Lib.hid ((Gr.of_below Hw8.out).trans G5);replace S5:=Lib.hid S5;clear A G5
    go_wp2_with fail
    refine Drawn.bk hK (hS:=by (try dsimp only);exact ⟨z0,z1,z2,z3,z4,z5⟩) (h:=fun hHeld=>?_)
    clear hK K;refine Drawn.cl 21 (fun K hK=>?_);go_simp;refine (storeR S5.out hP ka ⟨xk,xn⟩ (hw.out _ _ hr.out) h1000).mono ?_;rintro e w10 ⟨rfl,A⟩;obtain ⟨L70,v70,G70,S70⟩:=A.opn;have u0:w10.cell? ⟨P.cb,0,none⟩=some (.pointer (some ⟨E.hb,0,none⟩)):=S70.c0;obtain ⟨L71,v71,G71,S71⟩:=A.opn;have u1:w10.cell? ⟨P.cb,9,none⟩=some (.slice (some ⟨P.lb,0,none⟩) rg.length rg.length):=by have:=S71.c9;rw [Run.store_len] at this;exact this
    have u2:=A.box (b:=w.heap.size) (o:=1) (v:=.int .i64 ka) (by go_simp) nf5
    have u3:=A.box (b:=w.heap.size) (o:=2) (v:=.int .i64 kb) (by go_simp) nf5
    have u4:=A.box (b:=w.heap.size) (o:=3) (v:=.int .i64 kc) (by go_simp) nf5
    have u5:=A.box (b:=w.heap.size) (o:=4) (v:=.int .i64 n) (by go_simp) nf5
    go_wp2_with fail
    refine Drawn.bk hK (hS:=by (try dsimp only);exact ⟨u0,u1,u2,u3,u4,u5⟩) (h:=fun hHeld=>?_)
    clear hK K;refine dN ?_
    go_wp2
    go_end0
    exact plr_goE (by rfl) GB.out A
  ·have Hw8:=Lib.hid (show Below w.heap.size w w8 from Hw7.out.trans (Below.trans (by exact Rd.byB) (hb.mono (by have:=Hw7.out.size;first | exact this | (simp;omega)))))
   unfold pan;refine And.intro rfl ?_;exact plr_stuckE (by rw [← hr.out];simp [Run.reckon,qc,oA,Res.act]) (Gr.of_below Hw8.out) (HS.out.below Hw8.out)
 ·have Hw7:=Lib.hid (show Below w.heap.size w w7 from Below.trans (by exact Rd.byB) (hb.mono Rd.byL))
  unfold pan;refine And.intro rfl ?_;exact plr_stuckE (by rw [← hr.out];simp [Run.reckon,qb,oA,Res.act]) (Gr.of_below Hw7.out) (HS.out.below Hw7.out)
end
end Hpr
end Go.Proofs.YtncmhenfgbcihabGreat
