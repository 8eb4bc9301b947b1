/- Parts of the proof: Yq, Gw, Gt, Yr. -/
import Derived.Test.YtncmhenfgbcihabGreatG18
import Derived.Test.YtncmhenfgbcihabGreatG16
import Derived.RegionTactic
import Derived.Test.YtncmhenfgbcihabGreatG17
set_option linter.unusedSimpArgs false
set_option linter.unusedVariables false
set_option maxHeartbeats 8000000
namespace Go.Proofs.YtncmhenfgbcihabGreat
open Go.RowKit
namespace Hpr
open Num Rd D Run Mem HierW Hpw
section
variable {E:Ev}
theorem invOk (FS:FiR E.f) (KM:MachOk RM RfOk E.f E.input E.fuel) (hfu:E.fuel≤60000) (hin:E.input.length≤1000):∀ (n d:Nat),d+n=20→∀ (g:Nat) (h:Hp),E.fuel < g+h.steps→InvOk E d g h:=by
 intro n
 induction n with
 | zero =>
  intro d hd g h hg k args h1 hk HO hs hv hl L W mv va X H hmv hva hX
  have M:=FS.mes _ (meAt_mem hk);have hEB:E.B≤W.heap.size:=by have:=H.base;omega
  have h4:args.length≤4:=by have:=M.params.1;omega
  obtain ⟨vp,vc,vh,rfl,hrest⟩:=id hmv;refine invokeP H X args hmv hva _ (fun W2 b3 b4 b5 hb l3 l4 l5 c3 c5 B4=>?_);have hva2:=hva.next (X':=X) (Kp.of_below (X:=fun _=>False) hb (Nat.le_refl _)) (fun _ _ e=>e.elim) (fun _ _ e=>e);have hmv2:=hmv.mono (hb.mono hEB) (Nat.le_refl _)
  cases hall:allOf E.f.classes h1 args (meAt E.f k).params with
  | false =>
   have e:call RM E.f E.input E.fuel g d (meAt E.f k) args h1=.stop 6 h1:=by unfold call;rw [if_pos hall]
   rw [e];exact callBad FS.may (H.below hb) X args hmv2 hva2 hl h4 hv hall _
  | true =>
   have e:call RM E.f E.input E.fuel g d (meAt E.f k) args h1=.stop 5 h1:=by unfold call;rw [if_neg (by rw [hall];simp),if_pos (by omega)]
   rw [e];exact callDeep FS.may (H.below hb) X args hmv2 hva2 hl h4 hv hall (by omega) _
 | succ n ih =>
  intro d hd g h hg k args h1 hk HO hs hv hl L W mv va X H hmv hva hX
  have hmem:=meAt_mem hk;have M:=FS.mes _ hmem;have hEB:E.B≤W.heap.size:=by have:=H.base;omega
  have h4:args.length≤4:=by have:=M.params.1;omega
  obtain ⟨vp,vc,vh,rfl,hrest⟩:=id hmv;refine invokeP H X args hmv hva _ (fun W2 b3 b4 b5 hb l3 l4 l5 c3 c5 B4=>?_);have hva2:=hva.next (X':=X) (Kp.of_below (X:=fun _=>False) hb (Nat.le_refl _)) (fun _ _ e=>e.elim) (fun _ _ e=>e);have hmv2:=hmv.mono (hb.mono hEB) (Nat.le_refl _);have nown:∀ b,W.heap.size≤b→¬ own E L b:=fun b hb hk=>by have:=own_lo H hk;omega
  cases hall:allOf E.f.classes h1 args (meAt E.f k).params with
  | false =>
   have e:call RM E.f E.input E.fuel g d (meAt E.f k) args h1=.stop 6 h1:=by unfold call;rw [if_pos hall]
   rw [e];exact callBad FS.may (H.below hb) X args hmv2 hva2 hl h4 hv hall _
  | true =>
   have e:call RM E.f E.input E.fuel g d (meAt E.f k) args h1=loop RM E.f E.input E.fuel g (d+1) (meAt E.f k) (RM.enter (meAt E.f k) args) h1:=by unfold call;rw [if_neg (by rw [hall];simp),if_neg (by omega)]
   have hsz:(size args:Int)≤(meAt E.f k).regs:=by
    have:=size_slots args _ hl (fun i hi=>allOf_kind args _ hall i hi (by omega))
    have:=M.regs.2.1
    omega
   rw [e];exact callRun FS.may (H.below hb) X args hmv2 hva2 hl h4 hv hall (by omega) hX M.regs.2.2 hsz b3 b4 b5 (nown _ l3) (nown _ l4) (nown _ l5) c3 c5 B4 _ HO (KM.enter _ hmem _ args hv hl (fun i hi=>allOf_kind args _ hall i hi (by rw [← hl];exact hi))) g rfl (by omega) FS hmem hfu hin KM (Lib.hid (fun g2 h2 hg2=>ih (d+1) (by omega) g2 h2 hg2))
end
end Hpr
namespace Hpw
open Num Rd D Run Mem HierW
section
variable {E:Ev}{w w' w0 w1 w2 W:World}{L L' L1:Lay}{h h' h1 h2:Hp}{d:Nat}
def shc (E:Ev) (L:Lay) (h:Hp) (d:Nat) (x y z:Int):List Value:=[E.vc,E.vm,.int .i64 x,.int .i64 y,.int .i64 z,L.vo,.int .i64 h.used,.int .i64 h.steps,L.vb,E.vi,.int .i64 d,.int .i64 E.fuel]
set_option maxRecDepth 100000 in
theorem asS1 (c:Int) (w:World):(Instr.typeAssert (.iface 88 (.agg #[.int .i64 c])) 20 88 true).run Tryz.prog w=.ok (.tuple #[.agg #[.int .i64 c],.bool true]) w:=by kernel_rfl
set_option maxRecDepth 100000 in
theorem asS2 (o:Int) (w:World):(Instr.typeAssert (.iface 90 (.agg #[.int .i64 o])) 20 88 true).run Tryz.prog w=.ok (.tuple #[.agg #[.int .i64 0],.bool false]) w:=by kernel_rfl
theorem runsIdle (p:Addr) (w:World):CallsD Tryz.prog 49 #[.pointer (some p)] .returning w fun e u' w'=>e=.returned (.tuple #[])∧u'=.returning∧w'=w:=by
 refine callsD_of_wpS Tryz.func49 rfl fun c₀ cs hu=>?_
 apply wpS_seq
 apply wpS_region
 simp [wpOpsS,go_sem,recoverD,hu,Tryz.ntmps49,Exit.thenS];rw [show (Array.replicate 38 undef:Array Value)=#[undef,undef,undef,undef,undef,undef,undef,undef,undef,undef,undef,undef,undef,undef,undef,undef,undef,undef,undef,undef,undef,undef,undef,undef,undef,undef,undef,undef,undef,undef,undef,undef,undef,undef,undef,undef,undef,undef] from rfl];simp only [List.setIfInBounds_toArray,List.set_cons_succ,List.set_cons_zero,List.append_toArray,List.cons_append,List.nil_append];refine wpS_of_wp ?_
 go_wp2
 all_goals (cases c₀;simp_all [bodyPostS,results,Tryz.results49])
set_option maxRecDepth 100000 in
theorem runsStop (H:PH E w L h d) (b0:Nat) (c:Int) (older:List PanicEntry) (c0:w.cell? ⟨b0,0,none⟩=some (.pointer (some ⟨E.hb,0,none⟩))) :
  CallsD Tryz.prog 49 #[.pointer (some ⟨b0,0,none⟩)] (.panicking ({ v:=stopV c,recovered:=false } :: older)) w fun e u' w' =>
   e=.returned (.tuple #[])∧u'=.panicking ({ v:=stopV c,recovered:=true } :: older)∧Kp (fun k=>k=E.hb) w w'∧Blk w' E.hb (shc E L h d c 0 0):=by
 have hta:=asS1 c;have c2:=(H.cells 2 (by simp)).1
 have f2:=(H.cells 2 (by simp)).2
 simp only [List.getElem_cons_zero,List.getElem_cons_succ] at c2;have hb0:=cell_lt c0;have hhb:=H.hbw;have HH:=Lib.hid H;clear H;unfold stopV;refine callsD_of_wpS Tryz.func49 rfl fun c₀ cs hu=>?_
 apply wpS_seq
 apply wpS_region
 simp [wpOpsS,go_sem,recoverD,hu,Tryz.ntmps49,Exit.thenS];rw [show (Array.replicate 38 undef:Array Value)=#[undef,undef,undef,undef,undef,undef,undef,undef,undef,undef,undef,undef,undef,undef,undef,undef,undef,undef,undef,undef,undef,undef,undef,undef,undef,undef,undef,undef,undef,undef,undef,undef,undef,undef,undef,undef,undef,undef] from rfl];simp only [List.setIfInBounds_toArray,List.set_cons_succ,List.set_cons_zero,List.append_toArray,List.cons_append,List.nil_append];refine wpS_of_wp ?_
 go_wp2
 simp [bodyPostS,results,Tryz.results49];refine ⟨((Kp.refl (fun k=>k=E.hb) w).setCell (p:=⟨E.hb,2,none⟩) (.inl rfl) _).alloc _,?_⟩;exact (HH.out.cells.set 2 (by simp) (.int .i64 c)).alloc _
set_option maxRecDepth 100000 in
theorem runsThrown (H:PH E w L h d) (b0 o:Nat) (ho:o < h.objs.length) (older:List PanicEntry) (c0:w.cell? ⟨b0,0,none⟩=some (.pointer (some ⟨E.hb,0,none⟩))) :
  CallsD Tryz.prog 49 #[.pointer (some ⟨b0,0,none⟩)] (.panicking ({ v:=thrownV o,recovered:=false } :: older)) w fun e u' w' =>
   e=.returned (.tuple #[])∧u'=.panicking ({ v:=thrownV o,recovered:=true } :: older)∧Kp (fun k=>k=E.hb) w w'∧Blk w' E.hb (shc E L h d 2 0 (obj h o).cls):=by
 have hta:=asS2 o;have hta2:=assertT o;obtain ⟨g,cap,hvb,q1,q2,hg,hgne,o1,_⟩:=H.ob (n:=o) (by omega) (by omega)
 have c2:=(H.cells 2 (by simp)).1
 have f2:=(H.cells 2 (by simp)).2
 have c4:=(H.cells 4 (by simp)).1
 have f4:=(H.cells 4 (by simp)).2
 have c8:=H.c8;simp only [List.getElem_cons_zero,List.getElem_cons_succ] at c2 c4;rw [hvb] at c8;rw [Int.toNat_natCast] at o1;have hb0:=cell_lt c0;have hhb:=H.hbw;have hoi:(o:Int) < h.objs.length:=by omega
 have HH:=Lib.hid H;have HVB:=Lib.hid hvb;clear H hvb;unfold thrownV;refine callsD_of_wpS Tryz.func49 rfl fun c₀ cs hu=>?_
 apply wpS_seq
 apply wpS_region
 simp [wpOpsS,go_sem,recoverD,hu,Tryz.ntmps49,Exit.thenS];rw [show (Array.replicate 38 undef:Array Value)=#[undef,undef,undef,undef,undef,undef,undef,undef,undef,undef,undef,undef,undef,undef,undef,undef,undef,undef,undef,undef,undef,undef,undef,undef,undef,undef,undef,undef,undef,undef,undef,undef,undef,undef,undef,undef,undef,undef] from rfl];simp only [List.setIfInBounds_toArray,List.set_cons_succ,List.set_cons_zero,List.append_toArray,List.cons_append,List.nil_append];refine wpS_of_wp ?_
 go_wp2
 go_region
 go_wp2
 simp [bodyPostS,results,Tryz.results49];have B:=HH.out.cells;refine ⟨((((Kp.refl (fun k=>k=E.hb) w).setCell (p:=⟨E.hb,2,none⟩) (.inl rfl) _).setCell (p:=⟨E.hb,4,none⟩) (.inl rfl) _).alloc _).drew,?_⟩;exact (((B.set 2 (by simp) (.int .i64 2)).set 4 (by simp) (.int .i64 (obj h o).cls)).alloc _).drew
def RunsR (E:Ev) (L:Lay) (w:World) (s:Sh) (e:Ending) (w':World):Prop :=
 e=.returned (.tuple #[])∧Kp (own E L) w w'∧∃ vo,Blk w' E.hb [E.vc,E.vm,.int .i64 s.fin,.int .i64 s.value,.int .i64 s.cls,vo,.int .i64 s.used,.int .i64 s.steps]∧w'.ownsRow E.B 2 1 vo s.out.length (s.out.map (.int .i64 ·))
theorem runsR_of {w2:World}{x y z:Int}(K1:Kp (own E L) w w1) (H1:PH E w1 L1 h 0) (K2:Kp (fun k=>k=E.hb) w1 w2) (B2:Blk w2 E.hb (shc E L1 h 0 x y z)):RunsR E L w ⟨x,y,z,h.out,h.used,h.steps⟩ (.returned (.tuple #[])) w2:=by
 refine ⟨rfl,K1.trans K2 (fun y hy=>by subst hy;exact .inl (.inl rfl)),L1.vo,fun j hj=>?_,row_keep H1.out K2 (fun g hg e=>by subst e;exact H1.apart.1 hg)⟩
 match j,hj with
 | 0,_=>exact B2 0 (by simp [shc])
 | 1,_=>exact B2 1 (by simp [shc])
 | 2,_=>exact B2 2 (by simp [shc])
 | 3,_=>exact B2 3 (by simp [shc])
 | 4,_=>exact B2 4 (by simp [shc])
 | 5,_=>exact B2 5 (by simp [shc])
 | 6,_=>exact B2 6 (by simp [shc])
 | 7,_=>exact B2 7 (by simp [shc])
 | n+8,hj=>exact absurd hj (by simp)
end
end Hpw
namespace Hpw
open Num Rd D Run Mem HierW
section
variable {E:Ev}{w w' w0 w1 w2 W:World}{L L' L1:Lay}{h h' h1 h2:Hp}{d B:Nat}{f:Fi}
theorem keptf {B:Nat}{w w':World}{b o:Nat}{x:Bool}(hb:Below B w w') (hlt:b < B) (h:w.frozen? ⟨b,o,none⟩=x):w'.frozen? ⟨b,o,none⟩=x:=(World.frozen?_of_block (a:=⟨b,o,none⟩) (hb.block b hlt)).trans h
def ShV (w:World) (B:Nat) (s:Sh) (v:Value):Prop:=∃ vo,v=.agg #[.int .i64 s.fin,.int .i64 s.value,.int .i64 s.cls,vo,.int .i64 s.used,.int .i64 s.steps]∧w.ownsRow B 2 1 vo s.out.length (s.out.map (.int .i64 ·))
def RunA (w:World) (s:Sh) (c:Int) (e:Ending) (w':World):Prop:=∃ v,e=.returned (.tuple #[v,.int .i64 c])∧ShV w' w.heap.size s v∧Below w.heap.size w w'
theorem begR {W w2:World}{m:Me}{args input:List Int}{fuel:Int}{vc vm vi:Value}{e:Ending}(hno:m.params.any (fun t=>decide (t.kind=3))=false) (h:BegR W f m args input fuel vc vm vi e w2) :
  ∃ (E:Ev) (vl:Value),e=.returned (.tuple #[.pointer (some ⟨E.hb,0,none⟩),vl,.int .i64 0])∧(E.f=f∧E.input=input∧E.fuel=fuel.toNat∧E.B=W.heap.size∧E.vm=vm)∧PH E w2 L0 h0 0∧VS w2 (own E L0) vl (List.zipWith argOf m.params args)∧Below W.heap.size W w2:=by
 unfold BegR at h;rw [if_neg (by rw [hno];simp)] at h
 obtain ⟨hb,vl,rfl,H,V,hbl⟩:=h;refine ⟨_,vl,rfl,⟨rfl,rfl,rfl,rfl,rfl⟩,H,V.mono (fun b _ hx=>?_),hbl⟩
 rcases hx with e | e | e | e
 ·exact e
 ·cases e
 ·cases e
 ·exact absurd e (by simp [L0])
theorem fiH0 {input:List Int}{fuel:Nat}:HpOk f.classes input fuel h0:=⟨Nat.zero_le _,(fun o ho=>by cases ho),(fun x hx=>by cases hx),Nat.le_refl _,Nat.zero_le _,Nat.zero_le _⟩
theorem argOf_vt {nc:Int}{t:Ty}{n:Int}(ht:Hier.ty nc t=true) (h3:t.kind≠3) (hn:Ok n):VtOk 0 (argOf t n):=by
 unfold Hier.ty at ht;unfold argOf
 split at ht
 ·rename_i e
  by_cases e1:t.kind=1
  ·rw [if_pos e1];exact ⟨⟨wrap32_ok n,by simp,by simp,by simp⟩,by simp,by simp⟩
  ·rw [if_neg e1];refine ⟨⟨hn,?_,?_,?_⟩,?_,?_⟩ <;> simp only <;> omega
 ·exact absurd ht (by simp [h3])
end
end Hpw
namespace Hpr
open Num Rd D Run Mem HierW Hpw
section
variable {E:Ev}{w w' w1 w2:World}{L L' L1:Lay}{h h' h1 h2:Hp}{d:Nat}
set_option maxRecDepth 100000 in
theorem firstP (H:PH E w L h d) (k:Nat) (hk:k < E.f.methods.length) (b0 b1 b2 b3:Nat) (va:Value) (r:Res Vl) (c0:w.cell? ⟨b0,0,none⟩=some (.pointer (some ⟨E.hb,0,none⟩))) (c1:w.cell? ⟨b1,1,none⟩=some E.vm) (c2:w.cell? ⟨b2,0,none⟩=some (.int .i64 k)) (c3:w.cell? ⟨b3,0,none⟩=some va)
  (hC:∀ (W:World) (mv:Value),Below w.heap.size w W→VMe W E.B mv (meAt E.f k)→Calls Tryz.prog 45 #[.pointer (some ⟨E.hb,0,none⟩),mv,va] W (InvR E L d W r)) :
  Calls Tryz.prog 44 #[.pointer (some ⟨b0,0,none⟩),.pointer (some ⟨b1,0,none⟩),.pointer (some ⟨b2,0,none⟩),.pointer (some ⟨b3,0,none⟩)] w (InvR E L d w r):=by
 have HH:=Lib.hid H;have HC:=Lib.hid hC;obtain ⟨ma,mcap,hvm,q1,q2,hel⟩:=H.mes;obtain ⟨mb,mo,hma,hmb,vp,vco,vh,m0,m1,m2,m3,m4,m5,m6,m7,mok,hp,hco,hh⟩:=hel k hk;subst hma;have em:E.f.methods[k]=meAt E.f k:=by unfold meAt;rw [List.getD_eq_getElem?_getD,List.getElem?_eq_getElem hk];rfl
 rw [em] at m1 m2 m3 m4 m5 mok hp hco hh;rw [hvm] at c1;have hEB:E.B≤w.heap.size:=by have:=H.base;omega
 have VM:=Lib.hid (show VMe w E.B (.agg #[vp,.int .i64 (meAt E.f k).ret.kind,.int .i64 (meAt E.f k).ret.cls,.int .i64 (meAt E.f k).stack,.int .i64 (meAt E.f k).locals,.int .i64 (meAt E.f k).regs,vco,vh]) (meAt E.f k) from ⟨_,_,_,rfl,mok,hp,hco,hh⟩);obtain ⟨pa,pcap,rfl,_⟩:=id hp;obtain ⟨ca,ccap,rfl,_⟩:=id hco;obtain ⟨xa,xcap,rfl,_⟩:=id hh;have hk':(k:Int) < E.f.methods.length:=by omega
 have l0:=cell_lt c0;have l1:=cell_lt c1;have l2:=cell_lt c2;have l3:=cell_lt c3;have l4:=cell_lt m0;clear H hC hp hco hh mok hel hvm;obtain ⟨me,hme⟩:∃ me,Hid (meAt E.f k=me):=⟨_,Lib.hid rfl⟩
 go_enter Tryz.func44,Tryz.ntmps44
 rw [hme.out] at VM HC m0 m1 m2 m3 m4 m5 m6 m7;clear hme em
 go_wp2_with fail
 generalize hW1:w.alloc (.cells #[.int .i64 0,.int .i64 0] 46)=W1
 replace hW1:=Lib.hid hW1;have HB1:=Lib.hid (show Below w.heap.size w W1 from by rw [← hW1.out];exact Rd.byB)
 have x0:W1.cell? ⟨w.heap.size,0,none⟩=some (.int .i64 0):=by rw [← hW1.out];go_simp
 have x1:W1.cell? ⟨w.heap.size,1,none⟩=some (.int .i64 0):=by rw [← hW1.out];go_simp
 have f0:W1.frozen? ⟨w.heap.size,0,none⟩=false:=by rw [← hW1.out];go_simp
 have f1:W1.frozen? ⟨w.heap.size,1,none⟩=false:=by rw [← hW1.out];go_simp
 replace c0:=kept HB1.out l0 c0;replace c1:=kept HB1.out l1 c1;replace c2:=kept HB1.out l2 c2;replace c3:=kept HB1.out l3 c3;replace m0:=kept HB1.out l4 m0;replace m1:=kept HB1.out l4 m1;replace m2:=kept HB1.out l4 m2;replace m3:=kept HB1.out l4 m3;replace m4:=kept HB1.out l4 m4;replace m5:=kept HB1.out l4 m5;replace m6:=kept HB1.out l4 m6;replace m7:=kept HB1.out l4 m7;have hw1:=HB1.out.size;have hlt1:=cell_lt x0;replace l0:=cell_lt c0;replace l1:=cell_lt c1;replace l2:=cell_lt c2;replace l3:=cell_lt c3;replace l4:=cell_lt m0
 go_still_tail 7,(by kernel_rfl)
 go_wp2_with fail
 go_at_call 45
 have HB2:=Lib.hid (show Below w.heap.size w W1.drew from HB1.out.trans (by exact Rd.byB))
 refine (HC.out _ _ HB2.out (VM.out.mono (Below.mono HB2.out hEB) (Nat.le_refl _))).mono ?_;rintro e w5 R;have nr:¬ own E L w.heap.size:=fun hk=>by have:=(own_lo HH.out hk).2;omega
 cases r with
 | thrown o h2 =>
  obtain ⟨⟨older,hol,rfl⟩,A⟩:=R;refine And.intro rfl ?_;exact ⟨⟨older,hol,rfl⟩,A.before HB2.out⟩
 | stop c h2 =>
  obtain ⟨⟨older,hol,rfl⟩,A⟩:=R;refine And.intro rfl ?_;exact ⟨⟨older,hol,rfl⟩,A.before HB2.out⟩
 | ok v h2 =>
  obtain ⟨vk,vn⟩:=v;obtain ⟨rfl,A⟩:=R;have y0:=A.cell (b:=w.heap.size) (o:=0) (v:=.int .i64 0) (by go_simp) nr
  have y1:=A.cell (b:=w.heap.size) (o:=1) (v:=.int .i64 0) (by go_simp) nr
  have g0:=A.frz (b:=w.heap.size) (o:=0) (x:=false) (by exact hlt1) (by go_simp) nr
  have g1:=A.frz (b:=w.heap.size) (o:=1) (x:=false) (by exact hlt1) (by go_simp) nr
  have hlt:=cell_lt y0;unfold vl;replace A:=Lib.hid A
  go_wp2_with fail
  refine bodyPost_ret (v:=.agg #[.int .i64 vk,.int .i64 vn]) (by simp [results,Tryz.results44,go_sem] <;> go_simp) rfl ?_
  exact ⟨rfl,A.out.res2 HH.out HB2.out (by omega) hlt1 _ _⟩
set_option maxRecDepth 100000 in
theorem runsP (H:PH E w L h 0) (p0 p1 p2 p3:Value) (r:Res Vl) (hcall:Calls Tryz.prog 44 #[p0,p1,p2,p3] (w.alloc (.cells #[.pointer (some ⟨E.hb,0,none⟩)] 40)) (InvR E L 0 (w.alloc (.cells #[.pointer (some ⟨E.hb,0,none⟩)] 40)) r)) (hth:∀ o h',r=.thrown o h'→o < h'.objs.length) :
  Calls Tryz.prog 22 #[.pointer (some ⟨E.hb,0,none⟩),.func (.func 44) #[] #[p0,p1,p2,p3]] w (RunsR E L w (shown r)):=by
 have HH:=Lib.hid H;have HC:=Lib.hid hcall;have nr:¬ own E L w.heap.size:=fun hk=>by have:=(own_lo H hk).2;omega
 have hmf:∀ (fn:Fn) (first cap:Array Value) (w:World),(Instr.makeFunc fn first cap).run Tryz.prog w=.ok (.func fn first cap) w:=fun _ _ _ _=>rfl
 clear H hcall
 go_enter_defers Tryz.func22,Tryz.ntmps22
 go_wp2_with fail
 refine HC.out.mono ?_;rintro e w2 R
 cases r with
 | thrown o h2 =>
  obtain ⟨⟨older,hol,rfl⟩,A⟩:=R;have ho:=hth o h2 rfl;have b0:=A.cell (b:=w.heap.size) (o:=0) (v:=.pointer (some ⟨E.hb,0,none⟩)) (by go_simp) nr
  obtain ⟨L1,K1,N1,H1⟩:=A.before (w:=w) (by exact Rd.byB)
  have hdw:=drop_all older hol
  go_wp2_with fail
  refine leaves_cons (f:=49) (args:=#[.pointer (some ⟨w.heap.size,0,none⟩)]) (by simp) (by simp [go_sem]) ?_
  refine (runsThrown H1 w.heap.size o ho older b0).mono ?_;rintro e u' w'' ⟨rfl,rfl,K2,B2⟩;simp [Leaves,settle,hdw,results,Tryz.results22,go_sem];exact runsR_of K1 H1 K2 B2
 | stop c h2 =>
  obtain ⟨⟨older,hol,rfl⟩,A⟩:=R;have b0:=A.cell (b:=w.heap.size) (o:=0) (v:=.pointer (some ⟨E.hb,0,none⟩)) (by go_simp) nr
  obtain ⟨L1,K1,N1,H1⟩:=A.before (w:=w) (by exact Rd.byB)
  have hdw:=drop_all older hol
  go_wp2_with fail
  refine leaves_cons (f:=49) (args:=#[.pointer (some ⟨w.heap.size,0,none⟩)]) (by simp) (by simp [go_sem]) ?_
  refine (runsStop H1 w.heap.size c older b0).mono ?_;rintro e u' w'' ⟨rfl,rfl,K2,B2⟩;simp [Leaves,settle,hdw,results,Tryz.results22,go_sem];exact runsR_of K1 H1 K2 B2
 | ok v h2 =>
  obtain ⟨vk,vn⟩:=v;obtain ⟨rfl,A⟩:=R;have b0:=A.cell (b:=w.heap.size) (o:=0) (v:=.pointer (some ⟨E.hb,0,none⟩)) (by go_simp) nr
  obtain ⟨L1,K1,N1,H1⟩:=A.before (w:=w) (by exact Rd.byB)
  have c2:=(H1.cells 2 (by simp)).1
  have f2:=(H1.cells 2 (by simp)).2
  have c3:=(H1.cells 3 (by simp)).1
  have f3:=(H1.cells 3 (by simp)).2
  simp only [List.getElem_cons_zero,List.getElem_cons_succ] at c2 c3;have hhb:=H1.hbw;have hlt:=cell_lt b0;have nb:w.heap.size≠E.hb:=by have:=HH.out.hbw;omega
  have nb2:=nb.symm;unfold vl;have H1h:=Lib.hid H1;clear H1 A
  by_cases q1:vk=1
  ·subst q1
   go_wp2_with fail
   refine leaves_cons (f:=49) (args:=#[.pointer (some ⟨w.heap.size,0,none⟩)]) (by simp) (by simp [go_sem]) ?_
   refine (runsIdle _ _).mono ?_;rintro e u' w'' ⟨rfl,rfl,rfl⟩;simp [Leaves,settle,results,Tryz.results22,go_sem];have hsh:shown (.ok ⟨1,vn⟩ h2)=⟨1,vn,0,h2.out,h2.used,h2.steps⟩:=by simp [shown]
   rw [hsh];refine runsR_of K1 H1h.out ((((Kp.refl (fun k=>k=E.hb) w2).setCell (p:=⟨E.hb,2,none⟩) (.inl rfl) _).setCell (p:=⟨E.hb,3,none⟩) (.inl rfl) _).alloc _) ?_;exact ((H1h.out.cells.set 2 (by simp) (.int .i64 1)).set 3 (by simp) (.int .i64 vn)).alloc _
  by_cases q2:vk=2
  ·subst q2
   go_wp2_with fail
   refine leaves_cons (f:=49) (args:=#[.pointer (some ⟨w.heap.size,0,none⟩)]) (by simp) (by simp [go_sem]) ?_
   refine (runsIdle _ _).mono ?_;rintro e u' w'' ⟨rfl,rfl,rfl⟩;simp [Leaves,settle,results,Tryz.results22,go_sem];have hsh:shown (.ok ⟨2,vn⟩ h2)=⟨1,vn,0,h2.out,h2.used,h2.steps⟩:=by simp [shown]
   rw [hsh];refine runsR_of K1 H1h.out ((((Kp.refl (fun k=>k=E.hb) w2).setCell (p:=⟨E.hb,2,none⟩) (.inl rfl) _).setCell (p:=⟨E.hb,3,none⟩) (.inl rfl) _).alloc _) ?_;exact ((H1h.out.cells.set 2 (by simp) (.int .i64 1)).set 3 (by simp) (.int .i64 vn)).alloc _
  ·have q1b:(vk==1)=false:=by simpa using q1
   have q2b:(vk==2)=false:=by simpa using q2
   go_wp2_with fail
   refine leaves_cons (f:=49) (args:=#[.pointer (some ⟨w.heap.size,0,none⟩)]) (by simp) (by simp [go_sem]) ?_
   refine (runsIdle _ _).mono ?_;rintro e u' w'' ⟨rfl,rfl,rfl⟩;simp [Leaves,settle,results,Tryz.results22,go_sem];have hsh:shown (.ok ⟨vk,vn⟩ h2)=⟨1,0,0,h2.out,h2.used,h2.steps⟩:=by simp [shown,q1,q2]
   rw [hsh];refine runsR_of K1 H1h.out (((Kp.refl (fun k=>k=E.hb) w2).setCell (p:=⟨E.hb,2,none⟩) (.inl rfl) _).alloc _) ?_;exact (H1h.out.cells.set 2 (by simp) (.int .i64 1)).alloc _
end
end Hpr
end Go.Proofs.YtncmhenfgbcihabGreat
