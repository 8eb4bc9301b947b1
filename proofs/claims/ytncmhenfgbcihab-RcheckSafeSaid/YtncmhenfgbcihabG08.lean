/- Parts of the proof: RhN, RhO, RhC, NumW, NumR, RhE, RhD, RhP. -/
import Derived.Test.YtncmhenfgbcihabG07
import Derived.Deep.AppendLies
import Derived.Deep.RegionLaw
import Derived.Test.YtncmhenfgbcihabG01
import Derived.Test.YtncmhenfgbcihabRows
import Derived.WalkKit
import Derived.WalkSpells
import Derived.WalkLawsBesides
import Derived.Lib.Hide
import Derived.StillTailTactics
set_option linter.unusedSimpArgs false
set_option linter.unusedVariables false
set_option maxHeartbeats 8000000
namespace Go.Proofs.Ytncmhenfgbcihab
open Go.RowKit
namespace Rhw
open Num Rd D Run Mem HierW Hpw
theorem hcells_len (l:List ((Int × Int) × Vl)):(hcells l).length=l.length*4:=by
 induction l with
 | nil=>rfl
 | cons x l ih=>simp only [hcells,List.flatMap_cons,List.length_append,List.length_cons] at ih ⊢;rw [ih];simp [hcell];omega
theorem hcells_snoc (l:List ((Int × Int) × Vl)) (x:(Int × Int) × Vl):hcells (l++[x])=hcells l++hcell x:=by simp [hcells]
structure Nw (w wr:World) (cl:Int) (hv:Value) (held:List ((Int × Int) × Vl)):Prop where
 below:Below w.heap.size w wr
 res:Blk wr w.heap.size [.int .i64 0,.int .i64 0]
 ob:Blk wr (w.heap.size+1) [.int .i64 cl,hv]
 row:wr.ownsRow (w.heap.size+2) 284 4 hv held.length (hcells held)
theorem Nw.next {w wr wr':World}{cl:Int}{hv:Value}{held:List ((Int × Int) × Vl)}(N:Nw w wr cl hv held) (hb:Below wr.heap.size wr wr'):Nw w wr' cl hv held:=by
 have hk:Kp (fun _=>False) wr wr':=Kp.of_below hb (Nat.le_refl _);exact ⟨N.below.trans (hb.mono N.below.size),N.res.next hk (fun e=>e),N.ob.next hk (fun e=>e),row_keep N.row hk (fun _ _ e=>e)⟩
theorem nw_step {w wr W w2:World}{cl:Int}{hv:Value}{held:List ((Int × Int) × Vl)}(N:Nw w wr cl hv held) (hW:Below wr.heap.size wr W){g cap:Nat}{x:(Int × Int) × Vl}
  (ho:w2.ownsRow (w.heap.size+2) 284 4 (.slice (some ⟨g,0,none⟩) (held.length+1) cap) (held.length+1) (hcells held++hcell x)) (hg:W.grownBy w2 hv.ownBlock) :
  Nw w (w2.setCell ⟨w.heap.size+1,1,none⟩ (.slice (some ⟨g,0,none⟩) (held.length+1) cap)) cl (.slice (some ⟨g,0,none⟩) (held.length+1) cap) (held++[x]):=by
 have N1:=N.next hW;have hlo:∀ k,hv.ownBlock=some k→w.heap.size+2≤k:=fun k hk=>(World.ownsRow.lt N.row k hk).1;have hg2:w.heap.size+2≤g:=(World.ownsRow.lt ho g rfl).1;have hk:Kp (fun k=>w.heap.size+2≤k) W w2:=Kp.of_grown hg (fun k e=>hlo k e);have hb2:Below w.heap.size W w2:=hk.below N1.below.size (fun x hx=>by omega)
 have o2:=N1.ob.next hk (by omega)
 refine ⟨(N1.below.trans hb2).setCell (by simp) _,(N1.res.next hk (by omega)).far (by omega) _,o2.set 1 (by simp) _,?_⟩
 rw [hcells_snoc,List.length_append];exact ownsRow_setCell_other ho (by simp [Value.ownBlock];omega) _
theorem nw_mid {w wr W w2:World}{cl:Int}{hv:Value}{held:List ((Int × Int) × Vl)}(N:Nw w wr cl hv held) (hW:Below wr.heap.size wr W) (hg:W.grownBy w2 hv.ownBlock):Blk w2 (w.heap.size+1) [.int .i64 cl,hv]:=by
 have N1:=N.next hW;exact N1.ob.next (Kp.of_grown (X:=fun k=>w.heap.size+2≤k) hg (fun k e=>(World.ownsRow.lt N.row k e).1)) (by omega)
theorem news_of {W:World}{l:List Value}{T:TypeId}{b:Nat}(hb:b=W.heap.size):∀ j u,l[j]? = some u→(W.alloc (.cells l.toArray T)).cell? ((⟨b,0,none⟩:Addr).add j)=some u:=fun j u hj=>by
 subst hb;have hadd:(⟨W.heap.size,0,none⟩:Addr).add j=⟨W.heap.size,j,none⟩:=by unfold Addr.add;split <;> simp_all
 rw [hadd,World.cell?_alloc_new]
 simpa using hj
theorem info_held:(Try.prog.info? 284).map (fun i=>(i.zero,i.size,i.bytes))=some (some (.agg #[.int .i64 0,.int .i64 0,.int .i64 0,.int .i64 0]),4,32):=by kernel_rfl
theorem info_ob:(Try.prog.info? 179).map (fun i=>(i.zero,i.size,i.bytes))=some (some (.agg #[.int .i64 0,.slice none 0 0]),2,32):=by kernel_rfl
def IsV (v:Value):Prop:=∃ k n:Int,v=.agg #[.int .i64 k,.int .i64 n]
theorem nodup_grow {hb:Nat}{a b c b' e:List Nat}(h:(hb :: (a++(b++c))).Nodup) (hb':b'.Nodup) (he:e.Nodup) (h1:∀ x∈b',x∈b∨(x≠hb∧x∉a∧x∉c)) (h2:∀ x∈e,x≠hb∧x∉a∧x∉c∧x∉b'):(hb :: (a++(b'++(c++e)))).Nodup:=by
 simp only [List.nodup_cons,List.nodup_append,List.mem_append,not_or] at h ⊢;obtain ⟨⟨n1,n2,n3⟩,na,⟨nb,nc,nbc⟩,nabc⟩:=h;refine ⟨⟨n1,fun hm=>?_,n3,fun hm=>(h2 _ hm).1 rfl⟩,na,⟨hb',⟨nc,he,fun x hx y hy e'=>?_⟩,fun x hx y hy e'=>?_⟩,fun x hx y hy e'=>?_⟩
 ·rcases h1 _ hm with q | q
  ·exact n2 q
  ·exact q.1 rfl
 ·subst e';exact (h2 _ hy).2.2.1 hx
 ·subst e'
  rcases hy with hy | hy
  ·rcases h1 _ hx with q | q
   ·exact nbc _ q _ hy rfl
   ·exact q.2.2 hy
  ·exact (h2 _ hy).2.2.2 hx
 ·subst e'
  rcases hy with hy | hy | hy
  ·rcases h1 _ hy with q | q
   ·exact nabc _ hx _ (.inl q) rfl
   ·exact q.2.1 hx
  ·exact nabc _ hx _ (.inr hy) rfl
  ·exact (h2 _ hy).2.1 hx
theorem rocells_snoc:∀ (os:List Ob) (vs:List Value) (o:Ob) (v:Value),vs.length=os.length→rocells (os++[o]) (vs++[v])=rocells os vs++[.int .i64 o.cls,v]:=by
 intro os
 induction os with
 | nil=>intro vs o v h;cases vs with
  | nil=>rfl
  | cons u vs=>simp at h
 | cons p os ih=>intro vs o v h;cases vs with
  | nil=>simp at h
  | cons u vs=>simp only [List.cons_append,rocells];rw [ih vs o v (by simpa using h)]
theorem ownB_nodup (v:Value):v.ownBlock.toList.Nodup:=by cases v.ownBlock <;> simp
theorem grow_objs {E:Ev}{L:RL}{h:Hp}{d:Nat}{s:Sv}{w wr W w2:World}(H:RH E wr L h d s) (hold:∀ k,own E L k→k < w.heap.size) (hw:w.heap.size≤wr.heap.size){hv:Value}{o:Ob}{b0:Nat}(hb0:E.B≤b0) (hb1:w.heap.size≤b0) (hb2:b0≤wr.heap.size)
  (hrow:wr.ownsRow b0 284 4 hv o.held.length (hcells o.held)) (hW:Below wr.heap.size wr W){g cap:Nat}
  (ho:w2.ownsRow E.B 179 2 (.slice (some ⟨g,0,none⟩) (h.objs.length+1) cap) (h.objs.length+1) (rocells h.objs L.hvs++[.int .i64 o.cls,hv])) (hg:W.grownBy w2 L.vb.ownBlock) (hat:L.vb.ownBlock=some g∨g=W.heap.size) :
  RH E (w2.setCell ⟨E.hb,2,none⟩ (.slice (some ⟨g,0,none⟩) (h.objs.length+1) cap)) ⟨L.vo,.slice (some ⟨g,0,none⟩) (h.objs.length+1) cap,L.hvs++[hv]⟩ { h with objs:=h.objs++[o] } d s ∧
  Kp (own E L) wr (w2.setCell ⟨E.hb,2,none⟩ (.slice (some ⟨g,0,none⟩) (h.objs.length+1) cap)) ∧
  ∀ k,own E ⟨L.vo,.slice (some ⟨g,0,none⟩) (h.objs.length+1) cap,L.hvs++[hv]⟩ k→own E L k∨b0≤k:=by
 have HW:=H.below hW;have hlv:=World.ownsRow.lt hrow;have hsz:=hW.size;have hnd:=H.rows.nodup;have hnd':=hnd;unfold Rhw.rows at hnd';have hvb:∀ k,L.vb.ownBlock=some k→own E L k:=fun k e=>.inr (mem_rows.2 (.inr (.inl e)));have hK:Kp (fun k=>L.vb.ownBlock=some k) W w2:=Kp.of_grown hg (fun k e=>e)
 have ghb:g≠E.hb:=by
  rcases hat with e | e
  ·intro e';exact H.rows.hb (mem_rows.2 (.inr (.inl (by rw [e,e']))))
  ·have:=H.rows.base.2;omega
 have gvo:L.vo.ownBlock≠some g:=by
  intro e
  rcases hat with e' | e'
  ·have:=(List.nodup_append.1 (List.nodup_cons.1 hnd').2).2.2 g (mem_own.2 e) g (List.mem_append.2 (.inl (mem_own.2 e')))
   exact this rfl
  ·have:=(World.ownsRow.lt H.rows.out g e).2;omega
 have ghv:∀ v∈L.hvs,v.ownBlock≠some g:=by
  intro v hv e
  rcases hat with e' | e'
  ·have h2:=(List.nodup_append.1 (List.nodup_cons.1 hnd').2).2.1
   have:=(List.nodup_append.1 h2).2.2 g (mem_own.2 e') g (List.mem_flatMap.2 ⟨v,hv,mem_own.2 e⟩)
   exact this rfl
  ·have:=(H.rows.lo (mem_rows.2 (.inr (.inr ⟨v,hv,e⟩)))).2;omega
 have vbnew:∀ k,L.vb.ownBlock=some k→k≠E.hb∧L.vo.ownBlock≠some k∧∀ v∈L.hvs,v.ownBlock≠some k:=by
  intro k e
  refine ⟨fun e'=>H.rows.hb (mem_rows.2 (.inr (.inl (by rw [e,e'])))),fun e'=>?_,fun v hv e'=>?_⟩
  ·exact (List.nodup_append.1 (List.nodup_cons.1 hnd').2).2.2 k (mem_own.2 e') k (List.mem_append.2 (.inl (mem_own.2 e))) rfl
  ·have h2:=(List.nodup_append.1 (List.nodup_cons.1 hnd').2).2.1;exact (List.nodup_append.1 h2).2.2 k (mem_own.2 e) k (List.mem_flatMap.2 ⟨v,hv,mem_own.2 e'⟩) rfl
 have hvold:∀ k,hv.ownBlock=some k→¬ own E L k:=fun k e hk=>by have:=hold k hk;have:=(hlv k e).1;omega
 have hB:E.B≤W.heap.size:=by have:=H.rows.base;omega
 have hlo:∀ k,L.vb.ownBlock=some k→E.B≤k:=fun k e=>(H.rows.lo (mem_rows.2 (.inr (.inl e)))).1;have hcell:Kp (fun k=>k=E.hb) w2 (w2.setCell ⟨E.hb,2,none⟩ (.slice (some ⟨g,0,none⟩) (h.objs.length+1) cap)):=Kp.setCell (Kp.refl (fun k=>k=E.hb) w2) (p:=⟨E.hb,2,none⟩) (.inl rfl) _
 have hKK:Kp (own E L) wr (w2.setCell ⟨E.hb,2,none⟩ (.slice (some ⟨g,0,none⟩) (h.objs.length+1) cap)) :=
  ((Kp.of_below hW (Nat.le_refl _):Kp (own E L) wr W).trans hK (fun y hy=>.inl (hvb y hy))).trans hcell (fun y hy=>.inl (.inl hy))
 refine ⟨⟨⟨?_,?_,?_,?_,?_,?_,fun i hi=>?_,⟨H.rows.base.1,?_⟩,?_⟩,?_⟩,hKK,fun k hk=>?_⟩
 ·exact hKK.sl mCls H.rows.cls (by have:=H.rows.base;omega) (fun k hk=>(own_lo H.rows hk).1)
 ·exact hKK.sl mMe H.rows.mes (by have:=H.rows.base;omega) (fun k hk=>(own_lo H.rows hk).1)
 ·exact hKK.sl mInt H.rows.inp (by have:=H.rows.base;omega) (fun k hk=>(own_lo H.rows hk).1)
 ·refine row_keep (row_keep HW.rows.out hK (fun k e e'=>(vbnew k e').2.1 e)) hcell (fun k e e'=>?_);subst e';exact H.rows.hb (mem_rows.2 (.inl e))
 ·simp only [List.length_append,List.length_cons,List.length_nil];rw [rocells_snoc _ _ _ _ H.rows.many];exact ownsRow_setCell_other ho (by simp [Value.ownBlock];exact ghb) _
 ·simp [H.rows.many]
 ·simp only at hi ⊢
  by_cases e:i < L.hvs.length
  ·have h1:=row_keep (row_keep (HW.rows.held i e) hK (fun k e1 e2=>(vbnew k e2).2.2 _ (List.getElem_mem e) e1)) hcell (fun k e1 e2=>by subst e2;exact H.rows.hb (mem_rows.2 (.inr (.inr ⟨_,List.getElem_mem e,e1⟩))))
   have e2:(h.objs++[o]).getD i nilOb=h.objs.getD i nilOb:=by rw [List.getD_eq_getElem?_getD,List.getD_eq_getElem?_getD,List.getElem?_append_left (by rw [← H.rows.many];exact e)]
   rw [e2,List.getElem_append_left e];exact h1
  ·have hil:i=L.hvs.length:=by simp at hi;omega
   subst hil;have e2:(h.objs++[o]).getD L.hvs.length nilOb=o:=by rw [List.getD_eq_getElem?_getD,H.rows.many,List.getElem?_append_right (Nat.le_refl _)];simp
   rw [e2,List.getElem_append_right (Nat.le_refl _)];simp only [Nat.sub_self,List.getElem_cons_zero]
   have r0:wr.ownsRow E.B 284 4 hv o.held.length (hcells o.held):=by
    refine ⟨hrow.1,?_⟩
    rcases hrow.2 with hn | ⟨g',cap',cur,hv',hb',rest⟩
    ·exact .inl hn
    ·exact .inr ⟨g',cap',cur,hv',by omega,rest⟩
   refine row_keep (row_keep (row_keep r0 (Kp.of_below (X:=fun _=>False) hW (Nat.le_refl _)) (fun _ _ e=>e)) hK (fun k e1 e2=>hvold k e1 (hvb k e2))) hcell (fun k e1 e2=>hvold k e1 (.inl e2))
 ·exact Nat.lt_of_lt_of_le H.rows.base.2 hKK.size
 ·unfold Rhw.rows;simp only [List.flatMap_append,List.flatMap_cons,List.flatMap_nil,List.append_nil];refine nodup_grow hnd' (ownB_nodup _) (ownB_nodup _) (fun x hx=>?_) (fun x hx=>?_)
  ·have:x=g:=by simpa [Value.ownBlock] using hx
   subst this
   rcases hat with e | e
   ·exact .inl (mem_own.2 e)
   ·refine .inr ⟨ghb,fun q=>gvo (mem_own.1 q),fun q=>?_⟩;obtain ⟨v,hv,q⟩:=List.mem_flatMap.1 q;exact ghv v hv (mem_own.1 q)
  ·have hx:=mem_own.1 hx;have hno:=hvold x hx;refine ⟨fun e=>hno (.inl e),fun q=>hno (.inr (mem_rows.2 (.inl (mem_own.1 q)))),fun q=>?_,fun q=>?_⟩
   ·obtain ⟨v,hv,q⟩:=List.mem_flatMap.1 q;exact hno (.inr (mem_rows.2 (.inr (.inr ⟨v,hv,mem_own.1 q⟩))))
   ·have:x=g:=by simpa [Value.ownBlock] using q
    subst this
    rcases hat with e | e
    ·exact hno (hvb _ e)
    ·have:=(hlv x hx).2;omega
 ·have c1:Blk w2 E.hb (cellsR E L h d s):=HW.cells.next hK (fun e=>(vbnew _ e).1 rfl);exact c1.set 2 (by simp [cellsR]) _
 ·rcases hk with e | e
  ·exact .inl (.inl e)
  ·rcases mem_rows.1 e with e | e | ⟨v,hv',e3⟩
   ·exact .inl (.inr (mem_rows.2 (.inl e)))
   ·have:k=g:=by simpa [Value.ownBlock,eq_comm] using e
    subst this
    rcases hat with e | e
    ·exact .inl (hvb _ e)
    ·right;omega
   ·simp only [List.mem_append,List.mem_singleton] at hv'
    rcases hv' with hv' | hv'
    ·exact .inl (.inr (mem_rows.2 (.inr (.inr ⟨v,hv',e3⟩))))
    ·subst hv'
     right
     have:=(hlv k e3).1;omega
theorem grow_mid {E:Ev}{L:RL}{h:Hp}{d:Nat}{s:Sv}{wr W w2:World}(H:RH E wr L h d s) (hW:Below wr.heap.size wr W) (hg:W.grownBy w2 L.vb.ownBlock):Blk w2 E.hb (cellsR E L h d s) :=
 (H.below hW).cells.next (Kp.of_grown (X:=fun k=>L.vb.ownBlock=some k) hg (fun k e=>e)) (fun e=>H.rows.hb (mem_rows.2 (.inr (.inl e))))
theorem grow_res {E:Ev}{L:RL}{w wr W w2:World}{vs:List Value}(H:Blk wr w.heap.size vs) (hold:∀ k,own E L k→k < w.heap.size) (hvb:∀ k,L.vb.ownBlock=some k→own E L k) (hW:Below wr.heap.size wr W) (hg:W.grownBy w2 L.vb.ownBlock):Blk w2 w.heap.size vs :=
 (H.next (X:=fun _=>False) (Kp.of_below hW (Nat.le_refl _)) (fun e=>e)).next (Kp.of_grown (X:=fun k=>L.vb.ownBlock=some k) hg (fun k e=>e)) (fun e=>by have:=hold _ (hvb _ e);omega)
theorem at'_of {l:List Cls}{n:Nat}(h:n < l.length){x:Cls}(hx:l[n]=x):Hier.at' l n=x:=by rw [Hier.at_eq h,hx]
def Full (E:Ev) (L:RL) (h:Hp) (d:Nat) (c:Int) (w:World) (V:Value→Prop) (e:Ending) (w':World):Prop:=(∃ v,e=.returned v∧V v)∧RH E w' L h d (Sv.ends c)∧Kp (own E L) w w'
def Gives (E:Ev) (L:RL) (h:Hp) (d:Nat) (s:Sv) (w:World) (v:Value) (e:Ending) (w':World):Prop:=e=.returned v∧∃ L',RH E w' L' h d s∧Kp (own E L) w w'∧∀ k,own E L' k→own E L k∨w.heap.size≤k
theorem RH.res {E:Ev}{L:RL}{h:Hp}{d:Nat}{s:Sv}{w1:World}(H:RH E w1 L h d s){b:Nat}(hb:E.B≤b) (hn:¬ own E L b) (j:Nat) (v:Value):RH E (w1.setCell ⟨b,j,none⟩ v) L h d s :=
 H.keep (X:=fun k=>k=b) (Kp.setCell (Kp.refl (fun k=>k=b) w1) (p:=⟨b,j,none⟩) (.inl rfl) v) (fun k e=>by subst e;exact ⟨hb,hn⟩)
def more (h:Hp) (o:Ob):Hp:={ h with objs:=h.objs++[o] }
set_option maxRecDepth 100000 in
theorem newFull {E:Ev}{L:RL}{h:Hp}{d:Nat}{w:World}(H:RH E w L h d Sv.run) (cl:Int) (q:100≤h.objs.length) :
  Calls Try.prog 202 #[.pointer (some ⟨E.hb,0,none⟩),.int .i64 cl] w (Full E L h d 4 w IsV):=by
 have HH:=Lib.hid H;have hhb:=H.rows.base.2;have c2:=H.c2;obtain ⟨g,cap,hv,g1,g2,g3,g4⟩:=row_form H.rows.objs (by omega)
 rw [hv] at c2;clear H
 go_enter Try.func202,Try.ntmps202
 go_wp2_with (go_at_call 152;refine (endR (HH.out.below Rd.byB) rfl _).mono ?_;rintro e w1 ⟨rfl,rfl⟩)
 refine bodyPost_ret (v:=.agg #[.int .i64 0,.int .i64 0]) (by simp [results,Try.results202,go_sem] <;> go_simp) rfl ?_
 obtain ⟨e1,e2⟩:=endW_is HH.out rfl 4;unfold endW at e1 e2;exact ⟨⟨_,rfl,0,0,rfl⟩,e1.below Rd.byB,e2.alloc _⟩
set_option maxRecDepth 100000 in
theorem newOk {E:Ev}{L:RL}{h:Hp}{d:Nat}{w:World}(H:RH E w L h d Sv.run) (hm:Hier.may E.f.classes=true) (cl:Int) (q:h.objs.length < 100) :
  Calls Try.prog 202 #[.pointer (some ⟨E.hb,0,none⟩),.int .i64 cl] w (Gives E L (more h ⟨cl,fresh E.f.classes cl⟩) d Sv.run w (.agg #[.int .i64 3,.int .i64 h.objs.length])):=by
 obtain ⟨ih,hi,hz0,hz1,hz2⟩:=info_parts info_held;obtain ⟨io,hi',hy0,hy1,hy2⟩:=info_parts info_ob;have HH:=Lib.hid H;have hhb:=H.rows.base.2;have c2:=H.c2;have c0:=H.c0;have hcs:=H.rows.cls;have ho:=H.rows.objs;obtain ⟨ba,bcap,hvb⟩:=row_any ho;obtain ⟨ca,ccap,hvc,_,_,hel⟩:=id hcs;have hC:Cs w E.vc E.f.classes:=hcs.mono mCls (Below.refl _ _) (Nat.le_of_lt (Nat.lt_of_le_of_lt H.rows.base.1 hhb));have HC:=Lib.hid hC;have hwf:=Lib.hid (Hier.wf_of_may hm);rw [hvc] at c0 HC;rw [hvb] at c2;clear H hcs hvc hC
 go_enter Try.func202,Try.ntmps202
 go_wp2
 go_loopw [6] (fun i wr=>∃ n:Nat,i=.int .i64 n∧n≤E.f.classes.length∧∃ hv held,Hid (held=freshTo E.f.classes cl n)∧Hid (Nw w wr cl hv held)) (fun i _=>(E.f.classes.length - intOf i).toNat)
 case atStart =>
  refine ⟨0,rfl,Nat.zero_le _,.slice none 0 0,[],rfl,?_⟩
  show Nw _ _ _ _ _
  refine ⟨Rd.byB,fun j hj=>?_,fun j hj=>?_,World.ownsRow_nil _ _ _ _⟩
  ·simp at hj
   rcases j with _ | _ | j
   ·exact ⟨by go_simp,by go_simp⟩
   ·exact ⟨by go_simp,by go_simp⟩
   ·omega
  ·simp at hj
   rcases j with _ | _ | j
   ·exact ⟨by go_simp,by go_simp⟩
   ·exact ⟨by go_simp,by go_simp⟩
   ·omega
 case round =>
  obtain ⟨n,rfl,hn,hv,held,hheld,HN⟩:=hrel;have hb:=HN.out.below;have c0':=kept hb hhb c0;have hC2:=HC.out.next hb;clear hC2
  by_cases hlt:n < E.f.classes.length
  ·obtain ⟨p,hp⟩:∃ p,Hid (Hier.is E.f.classes cl n=p):=⟨_,rfl⟩;have hC2:=Lib.hid (HC.out.next hb)
   cases p
   ·clear hel
    go_wp2_with (go_at_call 154;refine (rbelowV _ _ _ _ false _ hp.out hC2.out hwf.out).mono ?_;rintro e w1 ⟨rfl,rfl⟩)
    go_roundw
    case rel=>exact ⟨n+1,by go_num,by omega,hv,held,Lib.hid (by rw [hheld.out,freshTo_succ,hp.out];simp),HN⟩
    case measure=>simp [intOf];omega
   ·obtain ⟨b,o,rfl,hbB,he⟩:=hel n hlt;obtain ⟨x,hx⟩:=at_of hlt;rw [hx.out] at he;have hB:E.B≤w.heap.size:=Nat.le_trans HH.out.rows.base.1 (Nat.le_of_lt hhb);obtain ⟨_,_,v,e2,hf⟩:=id he;obtain ⟨fa,fcap,rfl,_,_,hfe⟩:=hf;have hfx:Hid (Hier.at' E.f.classes n=x):=at'_of hlt hx.out;have hbs:b < w.heap.size:=Nat.lt_of_lt_of_le hbB hB;have e2':=kept hb hbs e2;clear he hel
    go_wp2_with (go_at_call 154;refine (rbelowV _ _ _ _ true _ hp.out hC2.out hwf.out).mono ?_;rintro e w1 ⟨rfl,rfl⟩)
    obtain ⟨wo,rfl⟩:∃ wo:World,wo=wr:=⟨_,rfl⟩
    go_loopw [7] (fun i wi=>∃ k:Nat,i=.int .i64 k∧k≤x.fields.length∧∃ hv held,Hid (held=freshTo E.f.classes cl n++fieldsTo n x.fields k)∧Hid (Nw w wi cl hv held)) (fun i _=>(x.fields.length - intOf i).toNat)
    case atStart=>exact ⟨0,rfl,Nat.zero_le _,hv,held,Lib.hid (by rw [hheld.out];simp [fieldsTo]),HN⟩
    case round =>
     clear c0' e2' HN hC2 hb hheld;obtain ⟨k,rfl,hk,hv2,held2,hheld2,HN2⟩:=hrel;have hb:=HN2.out.below;have c0':=kept hb hhb c0;have e2':=kept hb hbs e2
     by_cases hlt2:k < x.fields.length
     ·obtain ⟨bf,of,rfl,hbf,hfe2⟩:=hfe k hlt2;obtain ⟨t,ht⟩:=at_of hlt2;rw [ht.out] at hfe2;obtain ⟨t1,t2,_,_⟩:=hfe2;have t1':=kept hb (Nat.lt_of_lt_of_le hbf hB) t1;have t2':=kept hb (Nat.lt_of_lt_of_le hbf hB) t2
      have hal:held2.length≤100:=by
       rw [hheld2.out,List.length_append,fieldsTo_len];have h1:=freshTo_len hm cl n (by omega)
       have h2:E.f.classes.length≤12:=((Hier.may_iff _).1 hm).1.2
       have h3:x.fields.length≤6:=by
        have:=((Hier.may_iff _).1 hm).2 n hlt
        rw [hx.out] at this;unfold Hier.cls at this;simp only [Bool.and_eq_true,decide_eq_true_eq] at this;exact this.1.2
       omega
      have hbs2:=hb.size;have o1:wr.cell? ⟨w.heap.size+1,1,none⟩=some hv2:=(HN2.out.ob 1 (by simp)).1
      have fo1:wr.frozen? ⟨w.heap.size+1,1,none⟩=false:=(HN2.out.ob 1 (by simp)).2
      have hlo:w.heap.size+1 < wr.heap.size:=HN2.out.ob.lt;have hlo1:w.heap.size+1 < wr.heap.size+1:=by omega
      have hlo2:w.heap.size+1 < wr.heap.size+1+1:=by omega
      have hlo3:w.heap.size+1 < wr.heap.size+1+1+1:=by omega
      have hx2:Hid (∀ z,zero t=z→held2++[(((n:Int),(k:Int)),z)]=freshTo E.f.classes cl n++fieldsTo n x.fields (k+1)):=by
       show ∀ z,_
       intro z hz
       rw [hheld2.out,fieldsTo_succ,List.getD_eq_getElem?_getD,List.getElem?_eq_getElem hlt2,← hz,ht.out,List.append_assoc]
       rfl
      by_cases hk3:t.kind=3
      ·have hkb:(t.kind==3)=true:=by simpa using hk3
       clear hfe t1 t2 c0 e2 HH
       go_wp2_with (at_builtin;refine wpList_append_lies _ rfl (.tmp 74) (.tmp 79) 177 rfl (w.heap.size+2) 284 ih (.agg #[.int .i64 0,.int .i64 0,.int .i64 0,.int .i64 0]) 4 32 Try.underlying177 hi hz0 hz1 hz2 rfl (by decide) hv2 held2.length (hcells held2) (by simp [Act.eval,Act.put]) ((HN2.out.next (by exact Rd.byB)).row) ⟨wr.heap.size+1+1,0,none⟩ 1 1 [.int .i64 n,.int .i64 k,.int .i64 3,.int .i64 (-1)] (by simp [Act.eval,Act.put]) rfl (by exact news_of (by simp)) (by simp [Value.oneCell']) (by decide) (by unfold maxLen;omega) (by omega) (by simp;omega) _ rfl ?_;intro g2 cap2 w3 hown3 hgrow3 hat3 hlt3;have OB:=nw_mid HN2.out (by exact Rd.byB) hgrow3;have q1:w3.cell? ⟨w.heap.size+1,1,none⟩=some hv2:=(OB 1 (by simp)).1;have q2:w3.frozen? ⟨w.heap.size+1,1,none⟩=false:=(OB 1 (by simp)).2;have HA:=Lib.hid (nw_step (x:=(((n:Int),(k:Int)),(⟨3,-1⟩:Vl))) HN2.out (by exact Rd.byB) hown3 hgrow3);clear hown3 hgrow3 hat3 OB)
       go_roundw
       case rel=>exact ⟨k+1,by go_num,by omega,_,_,Lib.hid (hx2.out _ (by unfold zero;rw [if_pos hk3])),HA⟩
       case measure=>simp [intOf];omega
      ·have hkb:(t.kind==3)=false:=by simpa using hk3
       clear hfe t1 t2 c0 e2 HH
       go_wp2_with (at_builtin;refine wpList_append_lies _ rfl (.tmp 74) (.tmp 79) 177 rfl (w.heap.size+2) 284 ih (.agg #[.int .i64 0,.int .i64 0,.int .i64 0,.int .i64 0]) 4 32 Try.underlying177 hi hz0 hz1 hz2 rfl (by decide) hv2 held2.length (hcells held2) (by simp [Act.eval,Act.put]) ((HN2.out.next (by exact Rd.byB)).row) ⟨wr.heap.size+1+1,0,none⟩ 1 1 [.int .i64 n,.int .i64 k,.int .i64 t.kind,.int .i64 0] (by simp [Act.eval,Act.put]) rfl (by exact news_of (by simp)) (by simp [Value.oneCell']) (by decide) (by unfold maxLen;omega) (by omega) (by simp;omega) _ rfl ?_;intro g2 cap2 w3 hown3 hgrow3 hat3 hlt3;have OB:=nw_mid HN2.out (by exact Rd.byB) hgrow3;have q1:w3.cell? ⟨w.heap.size+1,1,none⟩=some hv2:=(OB 1 (by simp)).1;have q2:w3.frozen? ⟨w.heap.size+1,1,none⟩=false:=(OB 1 (by simp)).2;have HA:=Lib.hid (nw_step (x:=(((n:Int),(k:Int)),(⟨t.kind,0⟩:Vl))) HN2.out (by exact Rd.byB) hown3 hgrow3);clear hown3 hgrow3 hat3 OB)
       go_roundw
       case rel=>exact ⟨k+1,by go_num,by omega,_,_,Lib.hid (hx2.out _ (by unfold zero;rw [if_neg hk3])),HA⟩
       case measure=>simp [intOf];omega
     ·have hke:k=x.fields.length:=by omega
      subst hke;have hb2:E.hb < wr.heap.size:=Nat.lt_of_lt_of_le hhb hb.size;clear hfe HH
      go_wp2
      go_roundw
      case rel=>exact ⟨n+1,by go_num,by omega,_,_,Lib.hid (by rw [hheld2.out,freshTo_succ,hp.out,if_pos rfl,hfx.out];rfl),HN2⟩
      case measure=>simp [intOf];omega
  ·have hne:n=E.f.classes.length:=by omega
   subst hne;rw [freshTo_all] at hheld;have hheld':=hheld.out;subst hheld';clear hheld hel;have Hr:=HH.out.below hb;have c2':=Hr.c2;have f2':=Hr.fz 2 (by decide)
   rw [hvb] at c2';have o0:wr.cell? ⟨w.heap.size+1,0,none⟩=some (.int .i64 cl):=(HN.out.ob 0 (by simp)).1
   have o1:wr.cell? ⟨w.heap.size+1,1,none⟩=some hv:=(HN.out.ob 1 (by simp)).1
   have hlo:w.heap.size+1 < wr.heap.size:=HN.out.ob.lt;have hhb2:E.hb < wr.heap.size:=Hr.rows.base.2;have HR:=Lib.hid Hr;clear Hr c0 c2;have ho2:wr.ownsRow E.B 179 2 (.slice ba h.objs.length bcap) h.objs.length (rocells h.objs L.hvs):=by rw [← hvb];exact HR.out.rows.objs
   have HO2:=Lib.hid ho2;have hB2:E.B≤wr.heap.size:=by have:=HR.out.rows.base;omega
   have hro:Hid (wr.ownsRow (w.heap.size+2) 284 4 hv (fresh E.f.classes cl).length (hcells (fresh E.f.classes cl))):=HN.out.row;have hold:Hid (∀ k,own E L k→k < w.heap.size):=fun k hk=>(own_lo HH.out.rows hk).2;obtain ⟨ha,hcap,rfl⟩:=row_any hro.out;clear ho ho2
   go_wp2
   go_region_law ((refine step_append_lies _ rfl (.tmp 86) (.tmp 88) 108 rfl E.B 179 io (.agg #[.int .i64 0,.slice none 0 0]) 2 32 Try.underlying108 hi' hy0 hy1 hy2 rfl (by decide) (.slice ba h.objs.length bcap) h.objs.length (rocells h.objs L.hvs) (by simp [Act.eval,Act.put]) (by exact row_drew (HO2.out.alloc _)) ⟨wr.heap.size,0,none⟩ 1 1 [.int .i64 cl,.slice ha (fresh E.f.classes cl).length hcap] (by simp [Act.eval,Act.put]) rfl (by exact news_of (by simp)) (by simp [Value.oneCell']) (by decide) (by unfold maxLen;omega) (by omega) (by simp;omega) _ rfl ?_;intro g2 cap2 w3 hown3 hgrow3 hat3 hlt3;rw [← hvb] at hgrow3 hat3;have OB:=grow_mid HR.out (by exact Rd.byB) hgrow3;have q1:w3.cell? ⟨E.hb,2,none⟩=some (.slice ba h.objs.length bcap):=(by rw [← hvb];exact (OB 2 (by simp [cellsR])).1);have q2:w3.frozen? ⟨E.hb,2,none⟩=false:=(OB 2 (by simp [cellsR])).2;have RB:=grow_res HN.out.res hold.out (fun k e=>.inr (mem_rows.2 (.inr (.inl e)))) (by exact Rd.byB) hgrow3;have r0:=(RB 0 (by simp)).1;have r1:=(RB 1 (by simp)).1;have r2:=(RB 0 (by simp)).2;have r3:=(RB 1 (by simp)).2;have HA:=Lib.hid (grow_objs (o:=⟨cl,fresh E.f.classes cl⟩) HR.out hold.out hb.size (by have:=HH.out.rows.base;omega) (by omega) (by omega) hro.out (by exact Rd.byB) hown3 hgrow3 (by simpa using hat3));clear hown3 hgrow3 hat3 OB RB))
   all_goals
    go_wp2
    refine bodyPost_ret (v:=.agg #[.int .i64 3,.int .i64 h.objs.length]) (by simp [results,Try.results202,go_sem] <;> go_simp) rfl ?_
    obtain ⟨A1,A2,A3⟩:=HA.out
    have hno:∀ k,own E _ k→¬ k=w.heap.size:=fun k hk e=>by
     rcases A3 k hk with q | q
     ·have:=hold.out k q;omega
     ·omega
    have hB3:E.B≤w.heap.size:=by have:=HH.out.rows.base;omega
    have hn3:=fun hk=>hno w.heap.size hk rfl;exact ⟨rfl,_,(A1.res hB3 hn3 0 _).res hB3 hn3 1 _,(((Kp.of_below hb (Nat.le_refl _):Kp (own E L) w wr).trans A2 (fun y hy=>.inl hy)).setCell (p:=⟨w.heap.size,0,none⟩) (.inr (Nat.le_refl _)) _).setCell (p:=⟨w.heap.size,1,none⟩) (.inr (Nat.le_refl _)) _,fun k hk=>(A3 k hk).imp_right (fun q=>by omega)⟩
end Rhw
namespace Rhw
open Num Rd D Run Mem HierW Hpw
section
variable {E:Ev}{w w':World}{L L':RL}{h h':Hp}{d:Nat}{s:Sv}{α:Type}{A:α→Value→Prop}{V:Value→Prop}{r:Res α}{e:Ending}
theorem kb {X:Nat→Prop}{w0 w1 w2:World}(K:Kp X w0 w1) (hb:Below w1.heap.size w1 w2):Kp X w0 w2:=K.trans (Kp.of_below (X:=fun _=>False) hb (Nat.le_refl _)) (fun _ h=>h.elim)
theorem ended {w1:World}(H:RH E w L h d s) (ht:s.thrown = -1) (c:Int) (hb:Below w.heap.size w w1):RH E ((w1.setCell ⟨E.hb,12,none⟩ (.bool true)).setCell ⟨E.hb,6,none⟩ (.int .i64 c)) L h d (Sv.ends c)∧Kp (own E L) w ((w1.setCell ⟨E.hb,12,none⟩ (.bool true)).setCell ⟨E.hb,6,none⟩ (.int .i64 c)):=by
 obtain ⟨e1,e2⟩:=endW_is (H.below hb) ht c;unfold endW at e1 e2;exact ⟨e1,(Kp.of_below hb (Nat.le_refl _)).trans e2 (fun _ h=>.inl h)⟩
theorem fresh_b (H:RH E w L h d s){b:Nat}(hb:w.heap.size≤b):E.B≤b∧¬ own E L b:=⟨by have:=H.rows.base;omega,fun hk=>by have:=(own_lo H.rows hk).2;omega⟩
theorem RH.res2 (H:RH E w' L h d s){b:Nat}(hb:E.B≤b∧¬ own E L b) (x y:Value):RH E ((w'.setCell ⟨b,0,none⟩ x).setCell ⟨b,1,none⟩ y) L h d s:=(H.res hb.1 hb.2 0 x).res hb.1 hb.2 1 y
theorem kres2 {X:Nat→Prop}{w0 w1:World}(K:Kp X w0 w1){b:Nat}(hb:w0.heap.size≤b) (x y:Value):Kp X w0 ((w1.setCell ⟨b,0,none⟩ x).setCell ⟨b,1,none⟩ y):=(K.setCell (p:=⟨b,0,none⟩) (.inr hb) x).setCell (p:=⟨b,1,none⟩) (.inr hb) y
theorem mid_b {w1:World}(H:RH E w L h d s) (N:∀ k,own E L' k→own E L k∨w1.heap.size≤k){b:Nat}(h1:w.heap.size≤b) (h2:b < w1.heap.size):E.B≤b∧¬ own E L' b :=
 ⟨(fresh_b H h1).1,fun hk=>(N b hk).elim (fresh_b H h1).2 (fun h=>by omega)⟩
theorem kpB {X:Nat→Prop}{w0 w1:World}(h:Below w0.heap.size w0 w1):Kp X w0 w1:=Kp.of_below h (Nat.le_refl _)
theorem same_own:∀ k,own E L k→own E L k∨w.heap.size≤k:=fun k hk=>.inl hk
def Unit0 (v:Value):Prop:=v=.tuple #[]
theorem raiseOk (H:RH E w L h d Sv.run) (hm:Hier.may E.f.classes=true) (cl:Int) (q:h.objs.length < 100) :
  Calls Try.prog 198 #[.pointer (some ⟨E.hb,0,none⟩),.int .i64 cl] w (Gives E L (more h ⟨cl,fresh E.f.classes cl⟩) d (Sv.thr h.objs.length) w (.tuple #[])):=by
 have HH:=Lib.hid H;clear H
 go_enter Try.func198,Try.ntmps198
 go_wp2_with (go_at_call 202;refine (newOk HH.out hm cl q).mono ?_;rintro e w1 ⟨rfl,L',H1,K1,N1⟩;have c12:w1.cell? ⟨E.hb,12,none⟩=some (.bool false):=H1.c12;have c13:w1.cell? ⟨E.hb,13,none⟩=some (.int .i64 (-1)):=H1.c13;have f13:=H1.fz 13 (by decide);have hlt:=H1.rows.base.2;replace H1:=Lib.hid H1;replace K1:=Lib.hid K1;replace N1:=Lib.hid N1)
 go_end0
 refine ⟨rfl,L',RH.below (RH.set H1.out 13 (by decide) _ rfl rfl ?_) (by exact Rd.byB),?_,N1.out⟩
 ·simp [cellsR,Sv.run,Sv.thr]
 ·exact kb (K1.out.setCell (p:=⟨E.hb,13,none⟩) (.inl (.inl rfl)) _) (by exact Rd.byB)
theorem raiseFull (H:RH E w L h d Sv.run) (cl:Int) (q:100≤h.objs.length) :
  Calls Try.prog 198 #[.pointer (some ⟨E.hb,0,none⟩),.int .i64 cl] w (Full E L h d 4 w Unit0):=by
 have HH:=Lib.hid H;clear H
 go_enter Try.func198,Try.ntmps198
 go_wp2_with (go_at_call 202;refine (newFull HH.out cl q).mono ?_;rintro e w1 ⟨⟨v,rfl,kk,nn,rfl⟩,H1,K1⟩;have c12:w1.cell? ⟨E.hb,12,none⟩=some (.bool true):=H1.c12;have hlt:=H1.rows.base.2;replace H1:=Lib.hid H1;replace K1:=Lib.hid K1)
 go_end0
 exact ⟨⟨_,rfl,rfl⟩,H1.out.below Rd.byB,kb K1.out Rd.byB⟩
end
end Rhw
namespace Rhw
open Num Rd D Run Mem HierW Hpw
theorem hcells_get:∀ (l:List ((Int × Int) × Vl)) (i:Nat) (hi:i < l.length),(hcells l)[i*4]? = some (.int .i64 l[i].1.1)∧(hcells l)[i*4+1]? = some (.int .i64 l[i].1.2)∧(hcells l)[i*4+2]? = some (.int .i64 l[i].2.kind)∧(hcells l)[i*4+3]? = some (.int .i64 l[i].2.n):=by
 intro l
 induction l with
 | nil=>intro i h;simp at h
 | cons v l ih =>
  intro i h
  cases i with
  | zero=>simp [hcells,hcell]
  | succ i =>
   have:=ih i (by simpa using h)
   rw [show (i+1)*4+1=(i*4+1)+4 by omega,show (i+1)*4+2=(i*4+2)+4 by omega,show (i+1)*4+3=(i*4+3)+4 by omega,show (i+1)*4=i*4+4 by omega]
   simpa [hcells,hcell] using this
theorem hcells_set:∀ (l:List ((Int × Int) × Vl)) (i:Nat) (k:Int × Int) (v:Vl),(∀ hi:i < l.length,l[i].1=k)→hcells (l.set i (k,v))=((hcells l).set (i*4+2) (.int .i64 v.kind)).set (i*4+3) (.int .i64 v.n):=by
 intro l
 induction l with
 | nil=>intro i k v _;simp [hcells]
 | cons u l ih =>
  intro i k v hk
  cases i with
  | zero =>
   have:=hk (by simp)
   simp at this;subst this;simp [hcells,hcell]
  | succ i =>
   have:=ih i k v (fun hi=>by have:=hk (by simpa using hi);simpa using this)
   rw [show (i+1)*4+2=(i*4+2)+4 by omega,show (i+1)*4+3=(i*4+3)+4 by omega]
   simpa [hcells,hcell] using this
theorem row_dup {hb:Nat}{a b:List Nat}{vs:List Value}(hn:(hb :: (a++(b++vs.flatMap fun v=>v.ownBlock.toList))).Nodup){i j:Nat}(hi:i < vs.length) (hj:j < vs.length) (hij:i≠j){g:Nat}(e:vs[i].ownBlock=some g):vs[j].ownBlock≠some g:=by
 have h1:=(List.nodup_append.1 (List.nodup_append.1 (List.nodup_cons.1 hn).2).2.1).2.1;clear hn
 induction vs generalizing i j with
 | nil=>simp at hi
 | cons v vs ih =>
  simp only [List.flatMap_cons] at h1;obtain ⟨h2,h3,h4⟩:=List.nodup_append.1 h1
  cases i with
  | zero =>
   cases j with
   | zero=>exact absurd rfl hij
   | succ j =>
    intro e2
    exact h4 g (mem_own.2 e) g (List.mem_flatMap.2 ⟨_,List.getElem_mem (by simpa using hj),mem_own.2 e2⟩) rfl
  | succ i =>
   cases j with
   | zero =>
    intro e2
    exact h4 g (mem_own.2 e2) g (List.mem_flatMap.2 ⟨_,List.getElem_mem (by simpa using hi),mem_own.2 e⟩) rfl
   | succ j=>exact ih (by simpa using hi) (by simpa using hj) (by omega) e h3
section
variable {E:Ev}{w w':World}{L L':RL}{h h':Hp}{d:Nat}{s:Sv}
def setOb (h:Hp) (n:Int) (q:List ((Int × Int) × Vl)):Hp:={ h with objs:=h.objs.set n.toNat ⟨(obj h n).cls,q⟩ }
theorem rows_apart (H:RB E w L h){i:Nat}(hi:i < L.hvs.length){g:Nat}(e:L.hvs[i].ownBlock=some g):g≠E.hb∧L.vo.ownBlock≠some g∧L.vb.ownBlock≠some g:=by
 have hnd:=H.nodup;unfold Rhw.rows at hnd;have hm:g∈L.hvs.flatMap fun v=>v.ownBlock.toList:=List.mem_flatMap.2 ⟨_,List.getElem_mem hi,mem_own.2 e⟩;obtain ⟨n1,n2⟩:=List.nodup_cons.1 hnd;obtain ⟨_,n3,n4⟩:=List.nodup_append.1 n2;obtain ⟨_,_,n5⟩:=List.nodup_append.1 n3;refine ⟨fun q=>n1 ?_,fun q=>?_,fun q=>?_⟩
 ·rw [← q];exact List.mem_append.2 (.inr (List.mem_append.2 (.inr hm)))
 ·exact n4 g (mem_own.2 q) g (List.mem_append.2 (.inr hm)) rfl
 ·exact n5 g (mem_own.2 q) g hm rfl
theorem RH.setHeld (H:RH E w L h d s){n:Int}(h0:0≤n) (h1:n < h.objs.length){g cap j:Nat}(hv:L.hvs.getD n.toNat nilV=.slice (some ⟨g,0,none⟩) (obj h n).held.length cap) (hj:j < (obj h n).held.length) (k:Int × Int) (hk:((obj h n).held[j]).1=k) (v:Vl) :
  RH E ((w.setCell ⟨g,j*4+2,none⟩ (.int .i64 v.kind)).setCell ⟨g,j*4+3,none⟩ (.int .i64 v.n)) L (setOb h n ((obj h n).held.set j (k,v))) d s ∧
  Kp (own E L) w ((w.setCell ⟨g,j*4+2,none⟩ (.int .i64 v.kind)).setCell ⟨g,j*4+3,none⟩ (.int .i64 v.n)):=by
 have hl:n.toNat < L.hvs.length:=by rw [H.rows.many];omega
 have hro:=H.held h0 h1
 have hvi:L.hvs[n.toNat]=.slice (some ⟨g,0,none⟩) (obj h n).held.length cap:=by
  rw [List.getD_eq_getElem?_getD,List.getElem?_eq_getElem hl] at hv;exact hv
 have hob:L.hvs[n.toNat].ownBlock=some g:=by rw [hvi];rfl
 obtain ⟨g1,g2,g3⟩:=rows_apart H.rows hl hob;have hown:own E L g:=.inr (mem_rows.2 (.inr (.inr ⟨_,List.getElem_mem hl,hob⟩)))
 have K:Kp (fun k=>k=g) w ((w.setCell ⟨g,j*4+2,none⟩ (.int .i64 v.kind)).setCell ⟨g,j*4+3,none⟩ (.int .i64 v.n)) :=
  ((Kp.refl (fun k=>k=g) w).setCell (p:=⟨g,j*4+2,none⟩) (.inl rfl) _).setCell (p:=⟨g,j*4+3,none⟩) (.inl rfl) _
 have hB:E.B≤g:=(H.rows.lo (mem_rows.2 (.inr (.inr ⟨_,List.getElem_mem hl,hob⟩)))).1;have hB2:E.B≤w.heap.size:=Nat.le_trans H.rows.base.1 (Nat.le_of_lt H.rows.base.2);have hlo:∀ k,k=g→E.B≤k:=fun k e=>by omega
 refine ⟨⟨⟨K.sl mCls H.rows.cls hB2 hlo,K.sl mMe H.rows.mes hB2 hlo,K.sl mInt H.rows.inp hB2 hlo,row_keep H.rows.out K (fun k e e'=>g2 (by rw [e,e'])),?_,?_,fun i hi=>?_,⟨H.rows.base.1,Nat.lt_of_lt_of_le H.rows.base.2 K.size⟩,H.rows.nodup⟩,?_⟩,K.mono (fun k e=>by rw [e];exact hown)⟩
 ·have:=row_keep H.rows.objs K (fun k e e'=>g3 (by rw [e,e']))
  unfold setOb;simp only [List.length_set];rw [show (⟨(obj h n).cls,(obj h n).held.set j (k,v)⟩:Ob)=⟨(h.objs.getD n.toNat nilOb).cls,(obj h n).held.set j (k,v)⟩ from rfl,rocells_set];exact this
 ·unfold setOb;simp only [List.length_set];exact H.rows.many
 ·unfold setOb;simp only
  by_cases e:i=n.toNat
  ·subst e
   have e2:(h.objs.set n.toNat ⟨(obj h n).cls,(obj h n).held.set j (k,v)⟩).getD n.toNat nilOb=⟨(obj h n).cls,(obj h n).held.set j (k,v)⟩:=by
    rw [List.getD_eq_getElem?_getD,List.getElem?_set_self (by omega)];rfl
   rw [e2,hvi];simp only [List.length_set];rw [hcells_set _ _ _ _ (fun _=>hk)];have hro2:w.ownsRow E.B 284 4 (.slice (some ⟨g,0,none⟩) (obj h n).held.length cap) (obj h n).held.length (hcells (obj h n).held):=by rw [← hv];exact hro
   have hlen:=hcells_len (obj h n).held;exact row_set (row_set hro2 (by omega) _) (by simp only [List.length_set];omega) _
  ·have e2:(h.objs.set n.toNat ⟨(obj h n).cls,(obj h n).held.set j (k,v)⟩).getD i nilOb=h.objs.getD i nilOb:=by
    rw [List.getD_eq_getElem?_getD,List.getD_eq_getElem?_getD,List.getElem?_set_ne (by omega)]
   rw [e2];refine row_keep (H.rows.held i hi) K (fun q e3 e4=>?_);have hnd:=H.rows.nodup;unfold Rhw.rows at hnd;exact row_dup hnd hl hi (by omega) hob (by rw [e3,e4])
 ·exact H.cells.next K (fun e=>g1 e.symm)
set_option maxRecDepth 100000 in
theorem findStuck (H:RH E w L h d Sv.run) (hm:Hier.may E.f.classes=true) (v:Vl) (c k:Int) (hv:v.kind=3→v.n < h.objs.length) (ho:ofT E.f.classes h v ⟨3,c⟩=false) :
  Calls Try.prog 199 #[.pointer (some ⟨E.hb,0,none⟩),.agg #[.int .i64 v.kind,.int .i64 v.n],.int .i64 c,.int .i64 k] w (Full E L h d 6 w (fun v=>v=.int .i64 (-1))):=by
 have HH:=Lib.hid H;have hhb:=H.rows.base.2;have hp:=Lib.hid ho;clear H ho
 go_enter Try.func199,Try.ntmps199
 go_wp2_with (first | (go_at_call 106;refine (ofV (HH.out.below (by exact Rd.byB)) hm ⟨v.kind,v.n⟩ ⟨3,c⟩ _ hp.out hv).mono ?_;rintro e w1 ⟨rfl,hb1⟩;have hB:=Lib.hid (show Below w.heap.size w w1 from Below.trans (by exact Rd.byB) (hb1.mono (by simp <;> omega)));clear hb1) | (go_at_call 104;refine (mustF (HH.out.below hB.out) rfl).mono ?_;rintro e w2 ⟨rfl,rfl⟩))
 go_ret;exact ⟨⟨_,rfl,rfl⟩,ended HH.out rfl 6 hB.out⟩
set_option maxRecDepth 100000 in
theorem findFull (H:RH E w L h d Sv.run) (hm:Hier.may E.f.classes=true) (v:Vl) (c k:Int) (hn:v.n < 0) (ho:ofT E.f.classes h v ⟨3,c⟩=true) (q:100≤h.objs.length) :
  Calls Try.prog 199 #[.pointer (some ⟨E.hb,0,none⟩),.agg #[.int .i64 v.kind,.int .i64 v.n],.int .i64 c,.int .i64 k] w (Full E L h d 4 w (fun v=>v=.int .i64 (-1))):=by
 have HH:=Lib.hid H;have hhb:=H.rows.base.2;have hp:=Lib.hid ho;have hv:=Lib.hid (fun (_:v.kind=3)=>show v.n < h.objs.length by omega)
 clear H ho
 go_enter Try.func199,Try.ntmps199
 go_wp2_with (first | (go_at_call 106;refine (ofV (HH.out.below (by exact Rd.byB)) hm ⟨v.kind,v.n⟩ ⟨3,c⟩ _ hp.out hv.out).mono ?_;rintro e w1 ⟨rfl,hb1⟩;have y:=kept hb1 (b:=w.heap.size) (o:=1) (v:=.int .i64 v.n) (by simp) (by go_simp);have hB:=Lib.hid (show Below w.heap.size w w1 from Below.trans (by exact Rd.byB) (hb1.mono (by simp <;> omega)));clear hb1) | (go_at_call 104;refine (mustT (HH.out.below hB.out) rfl).mono ?_;rintro e w2 ⟨rfl,rfl⟩) | (go_at_call 198;refine (raiseFull (HH.out.below hB.out) _ q).mono ?_;rintro e w2 ⟨⟨v,rfl,rfl⟩,H2,K2⟩;replace H2:=Lib.hid H2;replace K2:=Lib.hid K2))
 go_ret;exact ⟨⟨_,rfl,rfl⟩,H2.out,(Kp.of_below hB.out (Nat.le_refl _)).trans K2.out (fun _ hy=>.inl hy)⟩
set_option maxRecDepth 100000 in
theorem findNull (H:RH E w L h d Sv.run) (hm:Hier.may E.f.classes=true) (v:Vl) (c k:Int) (hn:v.n < 0) (ho:ofT E.f.classes h v ⟨3,c⟩=true) (q:h.objs.length < 100) :
  Calls Try.prog 199 #[.pointer (some ⟨E.hb,0,none⟩),.agg #[.int .i64 v.kind,.int .i64 v.n],.int .i64 c,.int .i64 k] w (Gives E L (more h ⟨1,fresh E.f.classes 1⟩) d (Sv.thr h.objs.length) w (.int .i64 (-1))):=by
 have HH:=Lib.hid H;have hhb:=H.rows.base.2;have hp:=Lib.hid ho;have hv:=Lib.hid (fun (_:v.kind=3)=>show v.n < h.objs.length by omega)
 clear H ho
 go_enter Try.func199,Try.ntmps199
 go_wp2_with (first | (go_at_call 106;refine (ofV (HH.out.below (by exact Rd.byB)) hm ⟨v.kind,v.n⟩ ⟨3,c⟩ _ hp.out hv.out).mono ?_;rintro e w1 ⟨rfl,hb1⟩;have y:=kept hb1 (b:=w.heap.size) (o:=1) (v:=.int .i64 v.n) (by simp) (by go_simp);have hB:=Lib.hid (show Below w.heap.size w w1 from Below.trans (by exact Rd.byB) (hb1.mono (by simp <;> omega)));clear hb1) | (go_at_call 104;refine (mustT (HH.out.below hB.out) rfl).mono ?_;rintro e w2 ⟨rfl,rfl⟩) | (go_at_call 198;refine (raiseOk (HH.out.below hB.out) hm _ q).mono ?_;rintro e w2 ⟨rfl,L2,H2,K2,N2⟩;replace H2:=Lib.hid H2;replace K2:=Lib.hid K2;replace N2:=Lib.hid N2))
 go_ret;exact ⟨rfl,L2,H2.out,(Kp.of_below hB.out (Nat.le_refl _)).trans K2.out (fun _ hy=>.inl hy),fun k hk=>(N2.out k hk).imp_right (fun h=>Nat.le_trans hB.out.size h)⟩
set_option maxRecDepth 100000 in
theorem findAt (H:RH E w L h d Sv.run) (hm:Hier.may E.f.classes=true) (v:Vl) (c k:Int) (h0:0≤v.n) (h1:v.n < h.objs.length) (ho:ofT E.f.classes h v ⟨3,c⟩=true) (h72:(obj h v.n).held.length≤72) :
  Calls Try.prog 199 #[.pointer (some ⟨E.hb,0,none⟩),.agg #[.int .i64 v.kind,.int .i64 v.n],.int .i64 c,.int .i64 k] w fun e w'=>e=.returned (.int .i64 (at_ (obj h v.n).held (c,k)))∧Below w.heap.size w w':=by
 have HH:=Lib.hid H;have hhb:=H.rows.base.2;have hp:=Lib.hid ho;have hv:=Lib.hid (fun (_:v.kind=3)=>h1);obtain ⟨g,cap,hvb,c1,c2,hg,hgne,_,o2⟩:=H.ob h0 h1;have b2:=H.c2;rw [hvb] at b2;have hro:=H.held h0 h1;obtain ⟨ha,hcap,hhv⟩:=row_any hro;rw [hhv] at o2 hro;replace hro:=Lib.hid hro;have hnk:v.n.toNat < h.objs.length:=by omega
 clear H ho hhv hvb
 go_enter Try.func199,Try.ntmps199
 go_wp2_with (first | (go_at_call 106;refine (ofV (HH.out.below (by exact Rd.byB)) hm ⟨v.kind,v.n⟩ ⟨3,c⟩ _ hp.out hv.out).mono ?_;rintro e w1 ⟨rfl,hb1⟩;have y:=kept hb1 (b:=w.heap.size) (o:=1) (v:=.int .i64 v.n) (by simp) (by go_simp);have hB:=Lib.hid (show Below w.heap.size w w1 from Below.trans (by exact Rd.byB) (hb1.mono (by simp <;> omega)));have y2:=kept hB.out (cell_lt b2) b2;have y3:=kept hB.out (cell_lt o2) o2;clear hb1) | (go_at_call 104;refine (mustT (HH.out.below hB.out) rfl).mono ?_;rintro e w2 ⟨rfl,rfl⟩))
 go_quiet (fail)
 go_wp2
 go_loop [10] (fun i=>∃ n:Nat,i=.int .i64 n∧n≤(obj h v.n).held.length∧Hid (∀ j (hj:j < (obj h v.n).held.length),j < n→((obj h v.n).held[j]).1≠(c,k))) (fun i=>((obj h v.n).held.length - intOf i).toNat)
 case atStart=>exact ⟨0,rfl,Nat.zero_le _,fun j _ h=>absurd h (by omega)⟩
 case round =>
  obtain ⟨n,rfl,hn,hbef⟩:=hrel
  by_cases hlt:n < (obj h v.n).held.length
  ·obtain ⟨hg2,hcap2,hx,_,_,_,hg2lt⟩:=row_form hro.out (by omega)
   simp only [Value.slice.injEq,true_and] at hx;obtain ⟨rfl,rfl⟩:=hx;obtain ⟨z0,z1,z2,z3⟩:=hcells_get _ n hlt;have x0:=kept hB.out hg2lt (row_cell hro.out z0);have x1:=kept hB.out hg2lt (row_cell hro.out z1);obtain ⟨y0,hy0⟩:=at_of hlt
   have hY:=Lib.hid (fun (e:y0.1≠(c,k))=>show ∀ j (hj:j < (obj h v.n).held.length),j < n+1→((obj h v.n).held[j]).1≠(c,k) from fun j hj hjn=>by
    by_cases q:j < n
    ·exact hbef.out j hj q
    ·obtain rfl:j=n:=by omega
     rw [hy0.out];exact e)
   have hN:=Lib.hid (fun (e:y0.1=(c,k))=>show at_ (obj h v.n).held (c,k)=n by
    have:=idx_first hlt (k:=(c,k)) (by rw [hy0.out];exact e) (fun j hj hjn=>hbef.out j hj hjn)
    unfold at_
    rw [if_pos (by omega),this])
   rw [hy0.out] at x0 x1;obtain ⟨⟨yc,yk⟩,yv⟩:=y0;simp only at x0 x1 hY hN;clear z0 z1 z2 z3
   by_cases e1:yc=c
   ·subst e1
    by_cases e2:yk=k
    ·subst e2;replace hN:=Lib.hid (hN.out rfl)
     go_wp2
     go_ret;exact ⟨ret_int hN.out.symm,below_drewN hB.out _⟩
    ·have e2b:(yk==k)=false:=by simpa using e2
     have hY2:=Lib.hid (hY.out (by intro e;injection e with _ e;exact e2 e))
     clear e2 hY hN
     go_wp2
     go_round
     case rel=>exact ⟨n+1,by go_num,by omega,hY2⟩
     case measure=>simp [intOf];omega
   ·have e1b:(yc==c)=false:=by simpa using e1
    have hY2:=Lib.hid (hY.out (by intro e;injection e with e _;exact e1 e))
    clear e1 hY hN
    go_wp2
    go_round
    case rel=>exact ⟨n+1,by go_num,by omega,hY2⟩
    case measure=>simp [intOf];omega
  ·obtain rfl:n=(obj h v.n).held.length:=by omega
   have hN:Hid (at_ (obj h v.n).held (c,k) = -1):=by
    show _=_
    unfold at_;rw [if_neg (idx_none (fun j hj=>hbef.out j hj hj))]
   go_wp2
   go_ret;exact ⟨ret_int hN.out.symm,below_drewN hB.out _⟩
end
end Rhw
namespace NumW
open Num
theorem ret_int {k:IntKind}{a b:Int}(h:a=b):Ending.returned (.int k a)=.returned (.int k b):=by rw [h]
theorem ret_bool {a b:Bool}(h:a=b):Ending.returned (.bool a)=.returned (.bool b):=by rw [h]
theorem narrow (a:Int) (w:World):Calls Try.prog 218 #[.int .i64 a] w fun e w'=>e=.returned (.int .i64 (wrap32 a))∧w=w':=by
 go_enter Try.func218,Try.ntmps218
 go_wp2
 go_ret;exact ⟨ret_int (wrap64_id (wrap32_ok a)),rfl⟩
theorem wrap64_zero:wrap64 0=0:=by simp [wrap64]
theorem long_pair (p:Int × Bool) (x:Int) (o:Bool) (h:p=(x,o)):Ending.returned (.tuple #[.int .i64 p.1,.bool p.2])=.returned (.tuple #[.int .i64 x,.bool o]):=by
 subst h;rfl
theorem long (op a b:Int) (w:World) (ha:Ok a):Calls Try.prog 217 #[.int .i64 op,.int .i64 a,.int .i64 b] w fun e w'=>e=.returned (.tuple #[.int .i64 (Num.long op a b).1,.bool (Num.long op a b).2])∧w=w':=by
 by_cases h0:b=0
 ·subst h0
  go_enter Try.func217,Try.ntmps217
  go_wp2
  all_goals go_ret2
  all_goals refine ⟨(long_pair _ _ _ ?_).symm,rfl⟩
  all_goals simp_all [Num.long,wrap64_zero]
 by_cases h1:b = -1
 ·subst h1
  go_enter Try.func217,Try.ntmps217
  go_wp2
  all_goals go_ret2
  all_goals refine ⟨(long_pair _ _ _ ?_).symm,rfl⟩
  all_goals simp_all [Num.long,wrap64_zero]
 have q0:(b==0)=false:=by simpa using h0
 have q1:(b==-1)=false:=by simpa using h1
 have t1:=wrap64_id (tdiv_ok ha h1);have t2:=wrap64_id (tmod_ok (b:=b) ha)
 go_enter Try.func217,Try.ntmps217
 go_wp2
 all_goals go_ret2
 all_goals refine ⟨(long_pair _ _ _ ?_).symm,rfl⟩
 all_goals simp_all [Num.long]
theorem int (op a b:Int) (w:World):Calls Try.prog 216 #[.int .i64 op,.int .i64 a,.int .i64 b] w fun e w'=>e=.returned (.tuple #[.int .i64 (Num.int op a b).1,.bool (Num.int op a b).2])∧w=w':=by
 have ha:=wrap32_ok a
 go_enter Try.func216,Try.ntmps216
 go_wp2_with (first | (go_at_call 218;refine (narrow _ _).mono ?_;rintro e w' ⟨rfl,rfl⟩) | (go_at_call 217;refine (long _ _ _ _ ha).mono ?_;rintro e w' ⟨rfl,rfl⟩))
 go_ret2
 exact ⟨rfl,rfl⟩
theorem cmp (a b:Int) (w:World):Calls Try.prog 219 #[.int .i64 a,.int .i64 b] w fun e w'=>e=.returned (.int .i64 (Num.cmp a b))∧w=w':=by
 by_cases h1:a < b
 ·go_enter Try.func219,Try.ntmps219
  go_wp2
  all_goals go_ret
  all_goals exact ⟨ret_int (by simp [Num.cmp,h1]),rfl⟩
 by_cases h2:b < a
 ·go_enter Try.func219,Try.ntmps219
  go_wp2
  all_goals go_ret
  all_goals exact ⟨ret_int (by simp [Num.cmp,h1,h2]),rfl⟩
 ·have e:Num.cmp a b=0:=by simp [Num.cmp,h1,h2]
  rw [e]
  go_enter Try.func219,Try.ntmps219
  go_wp2
  all_goals go_ret
  all_goals exact ⟨rfl,rfl⟩
theorem holds1 (is:Bool) (c cond:Int) (p:Addr) (w:World) (h:w.cell? p=some (.int .i64 cond)):Calls Try.prog 211 #[.bool is,.int .i64 c,.pointer (some p)] w fun e w'=>e=.returned (.bool (is && (cond==c)))∧w=w':=by
 cases is
 all_goals
  go_enter Try.func211,Try.ntmps211
  go_wp2
  all_goals go_ret
  all_goals exact ⟨ret_bool (by simp),rfl⟩
theorem holds_neg (c a:Int) (h:a < 0):Num.holds c a=((false && c==1) || ((true && c==2) || ((true && c==3) || (false && c==4)))):=by
 unfold Num.holds
 by_cases h1:c=1
 ·subst h1;simp;omega
 by_cases h2:c=2
 ·subst h2;simp [h]
 by_cases h3:c=3
 ·subst h3;simp;omega
 by_cases h4:c=4
 ·subst h4;simp;omega
 simp [h1,h2,h3,h4]
theorem holds_pos (c a:Int) (h:0 < a):Num.holds c a=((false && c==1) || ((false && c==2) || ((true && c==3) || (true && c==4)))):=by
 unfold Num.holds
 by_cases h1:c=1
 ·subst h1;simp;omega
 by_cases h2:c=2
 ·subst h2;simp;omega
 by_cases h3:c=3
 ·subst h3;simp;omega
 by_cases h4:c=4
 ·subst h4;simp;omega
 simp [h1,h2,h3,h4]
theorem holds (c a:Int) (w:World):Calls Try.prog 180 #[.int .i64 c,.int .i64 a] w fun e w'=>e=.returned (.bool (Num.holds c a))∧Below w.heap.size w w':=by
 have hmf:∀ (fn:Fn) (first cap:Array Value) (w:World),(Instr.makeFunc fn first cap).run Try.prog w=.ok (.func fn first cap) w:=fun _ _ _ _=>rfl
 rcases Int.lt_trichotomy a 0 with h | h | h
 ·have n1:¬ 0 < a:=by omega
  have q0:(a==0)=false:=by simp;omega
  have q1:(a != 0)=true:=by simp;omega
  go_enter Try.func180,Try.ntmps180
  go_wp2_with (go_at_call 211;refine (holds1 _ _ c _ _ (by simp)).mono ?_;rintro e w' ⟨rfl,rfl⟩)
  all_goals go_ret
  all_goals go_tidy
  all_goals refine ⟨ret_bool ?_,(Below.refl _ _).alloc (Nat.le_refl _) _⟩
  all_goals rw [holds_neg c a h]
  all_goals simp_all
  all_goals (intros;omega)
 ·subst h
  go_enter Try.func180,Try.ntmps180
  go_wp2_with (go_at_call 211;refine (holds1 _ _ c _ _ (by simp)).mono ?_;rintro e w' ⟨rfl,rfl⟩)
  all_goals go_ret
  all_goals go_tidy
  all_goals refine ⟨ret_bool ?_,(Below.refl _ _).alloc (Nat.le_refl _) _⟩
  all_goals simp_all [Num.holds]
 ·have n1:¬ a < 0:=by omega
  have q0:(a==0)=false:=by simp;omega
  have q1:(a != 0)=true:=by simp;omega
  go_enter Try.func180,Try.ntmps180
  go_wp2_with (go_at_call 211;refine (holds1 _ _ c _ _ (by simp)).mono ?_;rintro e w' ⟨rfl,rfl⟩)
  all_goals go_ret
  all_goals go_tidy
  all_goals refine ⟨ret_bool ?_,(Below.refl _ _).alloc (Nat.le_refl _) _⟩
  all_goals rw [holds_pos c a h]
  all_goals simp_all
  all_goals simp [show ¬ a < 0 by omega]
end NumW
namespace NumW
open Num
theorem rnarrow (a:Int) (w:World):Calls Try.prog 99 #[.int .i64 a] w fun e w'=>e=.returned (.int .i64 (wrap32 a))∧w=w':=by
 rw [← refNarrow_eq];have b1:-4294967296 < a.tmod 4294967296:=by have:=Int.lt_tmod_of_pos a (show (0:Int) < 4294967296 by omega);omega
 have b2:a.tmod 4294967296 < 4294967296:=Int.tmod_lt_of_pos a (by omega)
 have e:refNarrow a=if 2147483648≤(if a.tmod 4294967296 < 0 then a.tmod 4294967296+4294967296 else a.tmod 4294967296) then (if a.tmod 4294967296 < 0 then a.tmod 4294967296+4294967296 else a.tmod 4294967296) - 4294967296 else (if a.tmod 4294967296 < 0 then a.tmod 4294967296+4294967296 else a.tmod 4294967296):=rfl;have E:=Lib.hid e;clear e
 go_enter Try.func99,Try.ntmps99
 go_wp2
 all_goals go_ret
 all_goals go_tidy
 all_goals refine ⟨ret_int ?_,rfl⟩
 all_goals rw [E.out]
 all_goals (repeat' split)
 all_goals first | omega | (show wrap64 _=_;unfold wrap64 at *;omega) | (show _=_;unfold wrap64 at *;omega)
theorem rcmp (a b:Int) (w:World):Calls Try.prog 201 #[.int .i64 a,.int .i64 b] w fun e w'=>e=.returned (.int .i64 (Num.cmp a b))∧w=w':=by
 go_enter Try.func201,Try.ntmps201
 go_wp2
 all_goals go_ret
 all_goals go_tidy
 all_goals refine ⟨ret_int ?_,rfl⟩
 all_goals unfold Num.cmp
 all_goals (repeat' split)
 all_goals omega
theorem rholds (c a:Int) (w:World):Calls Try.prog 155 #[.int .i64 c,.int .i64 a] w fun e w'=>e=.returned (.bool (Num.holds c a))∧w=w':=by
 go_enter Try.func155,Try.ntmps155
 go_wp2
 all_goals go_ret
 all_goals go_tidy
 all_goals refine ⟨ret_bool ?_,rfl⟩
 all_goals simp_all [Num.holds]
 all_goals rfl
theorem tdiv2 (n:Int):(n - n % 2).tdiv 2=(n - n % 2) / 2:=Int.tdiv_eq_ediv_of_dvd (by omega)
theorem tmod2 (n:Int):(n.tmod 2 < 0∧n.tmod 2+2=n % 2)∨(0≤n.tmod 2∧n.tmod 2=n % 2):=by
 by_cases h:0≤n
 ·rw [Int.tmod_eq_emod_of_nonneg h];right;omega
 ·have e:n.tmod 2 = -((-n) % 2):=by
   rw [← Int.tmod_eq_emod_of_nonneg (show 0≤-n by omega),Int.neg_tmod,Int.neg_neg]
  rw [e];omega
theorem tmod2_ne (m:Int):(m.tmod 2 != 0)=decide (m % 2=1):=by
 rcases tmod2 m with ⟨k1,k2⟩ | ⟨k1,k2⟩
 ·have k3:m.tmod 2≠0:=fun e=>by rw [e] at k1;omega
  have k4:m % 2=1:=by
   have:m % 2=0∨m % 2=1:=by omega
   rcases this with h | h
   ·exfalso;rw [h] at k2
    have:m.tmod 2 = -2:=by omega
    have:=Int.lt_tmod_of_pos m (show (0:Int) < 2 by omega)
    omega
   ·exact h
  rw [decide_eq_true k4,bne_iff_ne];exact k3
 ·rw [k2]
  have:m % 2=0∨m % 2=1:=by omega
  rcases this with h | h <;> rw [h] <;> rfl
theorem bitN_succ (k:Nat) (n:Int):bitN (k+1) n=(bitN k n - bitN k n % 2) / 2:=by
 have hp:(0:Int)≤2 ^ k:=Int.le_of_lt (Int.pow_pos (by omega))
 rw [bitN_eq,bitN_eq,Int.pow_succ,← Int.ediv_ediv_of_nonneg hp]
 generalize n / 2 ^ k=m
 omega
theorem rbit (n:Int) (k:Nat) (w:World) (hn:Ok n) (hk:k≤64) (v:Bool) (hv:Num.bit n k=v):Calls Try.prog 252 #[.int .i64 n,.int .i64 k] w fun e w'=>e=.returned (.bool v)∧w=w':=by
 have HV:Hid (Num.bit n k=v):=hv;clear hv
 go_enter Try.func252,Try.ntmps252
 go_wp2
 go_loop [0,5] (fun m i=>∃ j:Nat,j≤k∧i=.int .i64 j∧m=.int .i64 (bitN j n)) (fun _ i=>k - (intOf i).toNat)
 case atStart=>exact ⟨0,Nat.zero_le _,rfl,rfl⟩
 case round =>
  obtain ⟨j,hj,rfl,rfl⟩:=hrel;have hb:=bitN_ok j hn;unfold Ok at hb;have hs:=Lib.hid (bitN_succ j n);have HB:Hid (Num.bit n k=decide (bitN k n % 2=1)):=rfl;have t2:=tmod2 (bitN j n)
  generalize hm:bitN j n=m at *
  have hq:=tdiv2 m;have HM:=Lib.hid hm;clear hm
  by_cases hlt:j < k
  ·rcases t2 with ⟨t2,t3⟩ | ⟨t2,t3⟩
   all_goals
    go_wp2
    go_round
    case rel=>exact ⟨j+1,by omega,by go_num,by rw [hs.out]⟩
    case measure=>simp [intOf];omega
  ·obtain rfl:j=k:=by omega
   have key:(m.tmod 2 != 0)=v:=by
    rw [← HV.out,HB.out,HM.out];exact tmod2_ne m
   have KEY:=Lib.hid key;clear key
   go_wp2
   all_goals go_ret
   exact ⟨ret_bool KEY.out,rfl⟩
theorem wrap_add (x y:Int):wrap64 (wrap64 x+wrap64 y)=wrap64 (x+y):=by unfold wrap64;omega
theorem pow_step (j:Nat):wrap64 (wrap64 (2 ^ j)+wrap64 (2 ^ j))=wrap64 (2 ^ (j+1)):=by rw [wrap_add,Int.pow_succ];congr 1;omega
theorem sum_yes (op a b:Int) (j:Nat) (x y:Bool) (hx:Num.bit a j=x) (hy:Num.bit b j=y) (h:opBit op x y=true):wrap64 (wrap64 (sumN op a b j)+wrap64 (2 ^ j))=wrap64 (sumN op a b (j+1)):=by
 rw [wrap_add,sumN,hx,hy,h,if_pos rfl]
theorem sum_no (op a b:Int) (j:Nat) (x y:Bool) (hx:Num.bit a j=x) (hy:Num.bit b j=y) (h:opBit op x y=false):wrap64 (sumN op a b j)=wrap64 (sumN op a b (j+1)):=by
 rw [sumN,hx,hy,h,if_neg (by simp)];simp
theorem rbits (op a b:Int) (w:World) (ha:Ok a) (hb:Ok b) (o6 o7 o8:Bool) (h6:(op==6)=o6) (h7:(op==7)=o7) (h8:(op==8)=o8) (hop:(o6=true∧o7=false∧o8=false)∨(o6=false∧o7=true∧o8=false)∨(o6=false∧o7=false∧o8=true)):Calls Try.prog 246 #[.int .i64 op,.int .i64 a,.int .i64 b] w fun e w'=>e=.returned (.int .i64 (refBits op a b))∧w=w':=by
 have OB:∀ x y,Hid (opBit op x y=((o6 && x && y) || (o7 && (x || y)) || (o8 && (x != y)))):=by
  intro x y;rw [← h6,← h7,← h8]
  show _=_
  simp [opBit,Bool.beq_eq_decide_eq]
 rcases hop with ⟨rfl,rfl,rfl⟩ | ⟨rfl,rfl,rfl⟩ | ⟨rfl,rfl,rfl⟩
 all_goals
  go_enter Try.func246,Try.ntmps246
  go_wp2
  go_loop [7,8,9] (fun s p i=>∃ j:Nat,j≤64∧i=.int .i64 j∧s=.int .i64 (wrap64 (sumN op a b j))∧p=.int .i64 (wrap64 (2 ^ j))) (fun _ _ i=>64 - (intOf i).toNat)
  case atStart=>exact ⟨0,Nat.zero_le _,rfl,by simp [sumN,wrap64],by simp [wrap64]⟩
  case round =>
   obtain ⟨j,hj,rfl,rfl,rfl⟩:=hrel
   by_cases hlt:j < 64
   ·obtain ⟨x,hx⟩:∃ x,Hid (Num.bit a j=x):=⟨_,rfl⟩;obtain ⟨y,hy⟩:∃ y,Hid (Num.bit b j=y):=⟨_,rfl⟩;have hob:=OB x y;clear OB
    cases x <;> cases y
    all_goals
     go_wp2_with fail
     refine (rbit a j _ ha (by omega) _ hx.out).mono ?_
     rintro e w' ⟨rfl,rfl⟩
     go_wp2_with fail
     refine (rbit b j _ hb (by omega) _ hy.out).mono ?_
     rintro e w' ⟨rfl,rfl⟩
     go_wp2
     go_round
     case rel =>
      refine ⟨j+1,by omega,by go_num,?_,by rw [pow_step]⟩
      first
       | rw [sum_yes op a b j _ _ hx.out hy.out hob.out]
       | rw [sum_no op a b j _ _ hx.out hy.out hob.out]
     case measure=>simp [intOf];omega
   ·obtain rfl:j=64:=by omega
    go_wp2
    go_ret;exact ⟨rfl,rfl⟩
theorem rlong (op a b:Int) (w:World) (ha:Ok a) (hb:Ok b):Calls Try.prog 236 #[.int .i64 op,.int .i64 a,.int .i64 b] w fun e w'=>e=.returned (.tuple #[.int .i64 (Num.long op a b).1,.bool (Num.long op a b).2])∧w=w':=by
 rw [← refLong_eq op a b ha]
 by_cases h6:op=6∨op=7∨op=8
 ·have q1:(op==1)=false:=by simp;omega
  have q2:(op==2)=false:=by simp;omega
  have q3:(op==3)=false:=by simp;omega
  have E:Hid (refLong op a b=(refBits op a b,true)):=by
   show _=_
   unfold refLong;rw [if_neg (by omega),if_neg (by omega),if_neg (by omega),if_pos h6]
  have hc:=fun w=>rbits op a b w ha hb (op==6) (op==7) (op==8) rfl rfl rfl (by rcases h6 with rfl | rfl | rfl <;> simp)
  have HC:=Lib.hid hc;clear hc
  go_enter Try.func236,Try.ntmps236
  go_wp2_with (go_at_call 246;refine (HC.out _).mono ?_;rintro e w' ⟨rfl,rfl⟩)
  all_goals first | (exfalso;simp_all;done) | skip
  all_goals go_ret2
  all_goals exact ⟨(long_pair _ _ _ E.out).symm,rfl⟩
 have h6':¬ op=6:=by omega
 have h7':¬ op=7:=by omega
 have h8':¬ op=8:=by omega
 have q6:(op==6)=false:=by simpa using h6'
 have q7:(op==7)=false:=by simpa using h7'
 have q8:(op==8)=false:=by simpa using h8'
 clear h6
 by_cases h0:b=0
 ·subst h0
  go_enter Try.func236,Try.ntmps236
  go_wp2
  all_goals go_ret2
  all_goals refine ⟨(long_pair _ _ _ ?_).symm,rfl⟩
  all_goals go_tidy
  all_goals simp_all [refLong,wrap64_zero]
 by_cases h1:b = -1
 ·subst h1
  go_enter Try.func236,Try.ntmps236
  go_wp2
  all_goals go_ret2
  all_goals refine ⟨(long_pair _ _ _ ?_).symm,rfl⟩
  all_goals go_tidy
  all_goals simp_all [refLong]
 have q0:(b==0)=false:=by simpa using h0
 have q1:(b != -1)=true:=by simpa using h1
 have t1:=wrap64_id (tdiv_ok ha h1)
 go_enter Try.func236,Try.ntmps236
 go_wp2
 all_goals go_ret2
 all_goals refine ⟨(long_pair _ _ _ ?_).symm,rfl⟩
 all_goals go_tidy
 all_goals simp_all [refLong]
theorem rint (op a b:Int) (w:World) (ha:Ok a) (hb:Ok b):Calls Try.prog 237 #[.int .i64 op,.int .i64 a,.int .i64 b] w fun e w'=>e=.returned (.tuple #[.int .i64 (Num.int op a b).1,.bool (Num.int op a b).2])∧w=w':=by
 have h1:=wrap32_ok a;have h2:=wrap32_ok b;have h3:=long_ok op (wrap32 a) (wrap32 b) h1
 go_enter Try.func237,Try.ntmps237
 go_wp2_with (first | (go_at_call 99;refine (rnarrow _ _).mono ?_;rintro e w' ⟨rfl,rfl⟩) | (go_at_call 236;refine (rlong _ _ _ _ h1 h2).mono ?_;rintro e w' ⟨rfl,rfl⟩))
 go_ret2
 exact ⟨rfl,rfl⟩
end NumW
namespace Rhw
open Num Rd D Run Mem HierW Hpw
section
variable {E:Ev}{w w':World}{L L':RL}{h h':Hp}{d:Nat}{s:Sv}
def Keeps (E:Ev) (L:RL) (h:Hp) (d:Nat) (s:Sv) (w:World) (v:Value) (e:Ending) (w':World):Prop:=e=.returned v∧RH E w' L h d s∧Kp (own E L) w w'
theorem Keeps.gives {v:Value}{e:Ending}(H:Keeps E L h d s w v e w'):Gives E L h d s w v e w':=⟨H.1,L,H.2.1,H.2.2,same_own⟩
def stepped (h:Hp):Hp:={ h with steps:=h.steps+1 }
theorem stepFuel (H:RH E w L h d Sv.run) (q:E.fuel≤h.steps):Calls Try.prog 103 #[.pointer (some ⟨E.hb,0,none⟩)] w (Keeps E L h d (Sv.ends 0) w (.bool false)):=by
 have HH:=Lib.hid H;have c12:=H.c12;have c11:=H.c11;have c5:=H.c5;have hd:decide ((h.steps:Int)≥(E.fuel:Int))=true:=by simp;omega
 clear H
 go_enter Try.func103,Try.ntmps103
 go_wp2
 go_quiet (fail)
 go_wp2_with (go_at_call 152;refine (endR (HH.out.below (below_drewN (by exact Rd.byB) _)) rfl _).mono ?_;rintro e w1 ⟨rfl,rfl⟩)
 go_ret;exact ⟨rfl,ended HH.out rfl 0 (below_drewN (by exact Rd.byB) _)⟩
theorem stepOk (H:RH E w L h d Sv.run) (q:h.steps < E.fuel) (hf:E.fuel≤60000):Calls Try.prog 103 #[.pointer (some ⟨E.hb,0,none⟩)] w (Keeps E L (stepped h) d Sv.run w (.bool true)):=by
 have HH:=Lib.hid H;have c12:=H.c12;have c11:=H.c11;have c5:=H.c5;have f11:=H.fz 11 (by decide)
 have hd:decide ((h.steps:Int)≥(E.fuel:Int))=false:=by simp;omega
 clear H
 go_enter Try.func103,Try.ntmps103
 go_wp2
 go_quiet (fail)
 go_wp2
 go_ret;refine ⟨rfl,RH.set (HH.out.below (below_drewN (w:=w) (by exact Rd.byB) nq)) 11 (by decide) _ rfl rfl ?_,(Kp.of_below (B:=w.heap.size) (below_drewN (by exact Rd.byB) _) (Nat.le_refl _)).setCell (p:=⟨E.hb,11,none⟩) (.inl (.inl rfl)) _⟩
 simp [cellsR,stepped]
theorem castStuck (H:RH E w L h d Sv.run) (v:Vl) (cl:Int) (q:v.kind≠3) :
  Calls Try.prog 169 #[.pointer (some ⟨E.hb,0,none⟩),.agg #[.int .i64 v.kind,.int .i64 v.n],.int .i64 cl] w (Keeps E L h d (Sv.ends 6) w (.tuple #[])):=by
 have HH:=Lib.hid H;have qb:(v.kind==3)=false:=by simpa using q
 clear H
 go_enter Try.func169,Try.ntmps169
 go_wp2_with (go_at_call 104;refine (mustF (HH.out.below (by exact Rd.byB)) rfl).mono ?_;rintro e w2 ⟨rfl,rfl⟩)
 go_end0
 exact ⟨rfl,ended HH.out rfl 6 (by exact Rd.byB)⟩
theorem castOk (H:RH E w L h d Sv.run) (hm:Hier.may E.f.classes=true) (v:Vl) (cl:Int) (q:v.kind=3) (hv:v.n < h.objs.length) (ho:ofT E.f.classes h v ⟨3,cl⟩=true) :
  Calls Try.prog 169 #[.pointer (some ⟨E.hb,0,none⟩),.agg #[.int .i64 v.kind,.int .i64 v.n],.int .i64 cl] w (Keeps E L h d Sv.run w (.tuple #[])):=by
 have HH:=Lib.hid H;have hp:=Lib.hid ho;obtain ⟨kd,n⟩:=v;simp only at q hv;subst q;clear H ho
 go_enter Try.func169,Try.ntmps169
 go_wp2_with (first | (go_at_call 104;refine (mustT (HH.out.below (by exact Rd.byB)) rfl).mono ?_;rintro e w2 ⟨rfl,rfl⟩) | (go_at_call 106;refine (ofV (HH.out.below (by exact Rd.byB)) hm ⟨3,n⟩ ⟨3,cl⟩ _ hp.out (fun _=>hv)).mono ?_;rintro e w1 ⟨rfl,hb1⟩;have hB:=Lib.hid (show Below w.heap.size w w1 from Below.trans (by exact Rd.byB) (hb1.mono (by simp <;> omega)));clear hb1))
 go_end0
 exact ⟨rfl,HH.out.below hB.out,Kp.of_below hB.out (Nat.le_refl _)⟩
theorem castFull (H:RH E w L h d Sv.run) (hm:Hier.may E.f.classes=true) (v:Vl) (cl:Int) (q:v.kind=3) (hv:v.n < h.objs.length) (ho:ofT E.f.classes h v ⟨3,cl⟩=false) (q2:100≤h.objs.length) :
  Calls Try.prog 169 #[.pointer (some ⟨E.hb,0,none⟩),.agg #[.int .i64 v.kind,.int .i64 v.n],.int .i64 cl] w (Keeps E L h d (Sv.ends 4) w (.tuple #[])):=by
 have HH:=Lib.hid H;have hp:=Lib.hid ho;obtain ⟨kd,n⟩:=v;simp only at q hv;subst q;clear H ho
 go_enter Try.func169,Try.ntmps169
 go_wp2_with (first | (go_at_call 104;refine (mustT (HH.out.below (by exact Rd.byB)) rfl).mono ?_;rintro e w2 ⟨rfl,rfl⟩) | (go_at_call 106;refine (ofV (HH.out.below (by exact Rd.byB)) hm ⟨3,n⟩ ⟨3,cl⟩ _ hp.out (fun _=>hv)).mono ?_;rintro e w1 ⟨rfl,hb1⟩;have hB:=Lib.hid (show Below w.heap.size w w1 from Below.trans (by exact Rd.byB) (hb1.mono (by simp <;> omega)));clear hb1) | (go_at_call 198;refine (raiseFull (HH.out.below hB.out) _ q2).mono ?_;rintro e w2 ⟨⟨v,rfl,rfl⟩,H2,K2⟩;replace H2:=Lib.hid H2;replace K2:=Lib.hid K2))
 go_end0
 exact ⟨rfl,H2.out,(Kp.of_below hB.out (Nat.le_refl _)).trans K2.out (fun _ hy=>.inl hy)⟩
theorem castThr (H:RH E w L h d Sv.run) (hm:Hier.may E.f.classes=true) (v:Vl) (cl:Int) (q:v.kind=3) (hv:v.n < h.objs.length) (ho:ofT E.f.classes h v ⟨3,cl⟩=false) (q2:h.objs.length < 100) :
  Calls Try.prog 169 #[.pointer (some ⟨E.hb,0,none⟩),.agg #[.int .i64 v.kind,.int .i64 v.n],.int .i64 cl] w (Gives E L (more h ⟨3,fresh E.f.classes 3⟩) d (Sv.thr h.objs.length) w (.tuple #[])):=by
 have HH:=Lib.hid H;have hp:=Lib.hid ho;obtain ⟨kd,n⟩:=v;simp only at q hv;subst q;clear H ho
 go_enter Try.func169,Try.ntmps169
 go_wp2_with (first | (go_at_call 104;refine (mustT (HH.out.below (by exact Rd.byB)) rfl).mono ?_;rintro e w2 ⟨rfl,rfl⟩) | (go_at_call 106;refine (ofV (HH.out.below (by exact Rd.byB)) hm ⟨3,n⟩ ⟨3,cl⟩ _ hp.out (fun _=>hv)).mono ?_;rintro e w1 ⟨rfl,hb1⟩;have hB:=Lib.hid (show Below w.heap.size w w1 from Below.trans (by exact Rd.byB) (hb1.mono (by simp <;> omega)));clear hb1) | (go_at_call 198;refine (raiseOk (HH.out.below hB.out) hm _ q2).mono ?_;rintro e w2 ⟨rfl,L2,H2,K2,N2⟩;replace H2:=Lib.hid H2;replace K2:=Lib.hid K2;replace N2:=Lib.hid N2))
 go_end0
 exact ⟨rfl,L2,H2.out,(Kp.of_below hB.out (Nat.le_refl _)).trans K2.out (fun _ hy=>.inl hy),fun k hk=>(N2.out k hk).imp_right (fun h=>Nat.le_trans hB.out.size h)⟩
end
end Rhw
namespace Rhw
open Num Rd D Run Mem HierW Hpw
section
variable {E:Ev}{w w':World}{L L':RL}{h h':Hp}{d:Nat}{s:Sv}
set_option maxRecDepth 100000 in
theorem getStuck (H:RH E w L h d Sv.run) (hm:Hier.may E.f.classes=true) (v:Vl) (c k:Int) (hv:v.kind=3→v.n < h.objs.length) (ho:ofT E.f.classes h v ⟨3,c⟩=false) :
  Calls Try.prog 203 #[.pointer (some ⟨E.hb,0,none⟩),.agg #[.int .i64 v.kind,.int .i64 v.n],.int .i64 c,.int .i64 k] w (Full E L h d 6 w IsV):=by
 have HH:=Lib.hid H;have hhb:=H.rows.base.2;have hp:=Lib.hid ho;clear H ho
 go_enter Try.func203,Try.ntmps203
 go_wp2_with (go_at_call 199;refine (findStuck (HH.out.below (by exact Rd.byB)) hm ⟨v.kind,v.n⟩ c k hv hp.out).mono ?_;rintro e w1 ⟨⟨v,rfl,rfl⟩,H1,K1⟩;have r0:=K1.cell (c:=w.heap.size+1) (o:=0) (v:=.int .i64 0) (by go_simp) (fun hk=>(fresh_b HH.out (by omega)).2 hk);have r1:=K1.cell (c:=w.heap.size+1) (o:=1) (v:=.int .i64 0) (by go_simp) (fun hk=>(fresh_b HH.out (by omega)).2 hk);have f0:=K1.frz (c:=w.heap.size+1) (o:=0) (b:=false) (by go_simp) (by simp) (fun hk=>(fresh_b HH.out (by omega)).2 hk);have f1:=K1.frz (c:=w.heap.size+1) (o:=1) (b:=false) (by go_simp) (by simp) (fun hk=>(fresh_b HH.out (by omega)).2 hk);replace H1:=Lib.hid H1;replace K1:=Lib.hid K1)
 refine bodyPost_ret (v:=.agg #[.int .i64 0,.int .i64 0]) (by simp [results,Try.results203,go_sem] <;> go_simp) rfl ?_
 exact ⟨⟨_,rfl,0,0,rfl⟩,H1.out.res2 (fresh_b HH.out (by omega)) _ _,kres2 ((kpB (by exact Rd.byB)).trans K1.out (fun _ hy=>.inl hy)) (by omega) _ _⟩
set_option maxRecDepth 100000 in
theorem getFull (H:RH E w L h d Sv.run) (hm:Hier.may E.f.classes=true) (v:Vl) (c k:Int) (hn:v.n < 0) (ho:ofT E.f.classes h v ⟨3,c⟩=true) (q:100≤h.objs.length) :
  Calls Try.prog 203 #[.pointer (some ⟨E.hb,0,none⟩),.agg #[.int .i64 v.kind,.int .i64 v.n],.int .i64 c,.int .i64 k] w (Full E L h d 4 w IsV):=by
 have HH:=Lib.hid H;have hhb:=H.rows.base.2;have hp:=Lib.hid ho;clear H ho
 go_enter Try.func203,Try.ntmps203
 go_wp2_with (go_at_call 199;refine (findFull (HH.out.below (by exact Rd.byB)) hm ⟨v.kind,v.n⟩ c k hn hp.out q).mono ?_;rintro e w1 ⟨⟨v,rfl,rfl⟩,H1,K1⟩;have r0:=K1.cell (c:=w.heap.size+1) (o:=0) (v:=.int .i64 0) (by go_simp) (fun hk=>(fresh_b HH.out (by omega)).2 hk);have r1:=K1.cell (c:=w.heap.size+1) (o:=1) (v:=.int .i64 0) (by go_simp) (fun hk=>(fresh_b HH.out (by omega)).2 hk);have f0:=K1.frz (c:=w.heap.size+1) (o:=0) (b:=false) (by go_simp) (by simp) (fun hk=>(fresh_b HH.out (by omega)).2 hk);have f1:=K1.frz (c:=w.heap.size+1) (o:=1) (b:=false) (by go_simp) (by simp) (fun hk=>(fresh_b HH.out (by omega)).2 hk);replace H1:=Lib.hid H1;replace K1:=Lib.hid K1)
 refine bodyPost_ret (v:=.agg #[.int .i64 0,.int .i64 0]) (by simp [results,Try.results203,go_sem] <;> go_simp) rfl ?_
 exact ⟨⟨_,rfl,0,0,rfl⟩,H1.out.res2 (fresh_b HH.out (by omega)) _ _,kres2 ((kpB (by exact Rd.byB)).trans K1.out (fun _ hy=>.inl hy)) (by omega) _ _⟩
set_option maxRecDepth 100000 in
theorem getNull (H:RH E w L h d Sv.run) (hm:Hier.may E.f.classes=true) (v:Vl) (c k:Int) (hn:v.n < 0) (ho:ofT E.f.classes h v ⟨3,c⟩=true) (q:h.objs.length < 100) :
  Calls Try.prog 203 #[.pointer (some ⟨E.hb,0,none⟩),.agg #[.int .i64 v.kind,.int .i64 v.n],.int .i64 c,.int .i64 k] w (Gives E L (more h ⟨1,fresh E.f.classes 1⟩) d (Sv.thr h.objs.length) w (.agg #[.int .i64 0,.int .i64 0])):=by
 have HH:=Lib.hid H;have hhb:=H.rows.base.2;have hp:=Lib.hid ho;clear H ho
 go_enter Try.func203,Try.ntmps203
 go_wp2_with (go_at_call 199;refine (findNull (HH.out.below (by exact Rd.byB)) hm ⟨v.kind,v.n⟩ c k hn hp.out q).mono ?_;rintro e w1 ⟨rfl,L1,H1,K1,N1⟩;replace N1:=Lib.hid N1;have r0:=K1.cell (c:=w.heap.size+1) (o:=0) (v:=.int .i64 0) (by go_simp) (fun hk=>(fresh_b HH.out (by omega)).2 hk);have r1:=K1.cell (c:=w.heap.size+1) (o:=1) (v:=.int .i64 0) (by go_simp) (fun hk=>(fresh_b HH.out (by omega)).2 hk);have f0:=K1.frz (c:=w.heap.size+1) (o:=0) (b:=false) (by go_simp) (by simp) (fun hk=>(fresh_b HH.out (by omega)).2 hk);have f1:=K1.frz (c:=w.heap.size+1) (o:=1) (b:=false) (by go_simp) (by simp) (fun hk=>(fresh_b HH.out (by omega)).2 hk);replace H1:=Lib.hid H1;replace K1:=Lib.hid K1)
 refine bodyPost_ret (v:=.agg #[.int .i64 0,.int .i64 0]) (by simp [results,Try.results203,go_sem] <;> go_simp) rfl ?_
 exact ⟨rfl,L1,H1.out.res2 (mid_b HH.out N1.out (by omega) (by simp)) _ _,kres2 ((kpB (by exact Rd.byB)).trans K1.out (fun _ hy=>.inl hy)) (by omega) _ _,fun k hk=>(N1.out k hk).imp_right (fun h=>Nat.le_trans (by simp <;> omega) h)⟩
theorem findAtV {j:Int}(H:RH E w L h d Sv.run) (hm:Hier.may E.f.classes=true) (v:Vl) (c k:Int) (h0:0≤v.n) (h1:v.n < h.objs.length) (ho:ofT E.f.classes h v ⟨3,c⟩=true) (h72:(obj h v.n).held.length≤72) (hj:at_ (obj h v.n).held (c,k)=j) :
  Calls Try.prog 199 #[.pointer (some ⟨E.hb,0,none⟩),.agg #[.int .i64 v.kind,.int .i64 v.n],.int .i64 c,.int .i64 k] w fun e w'=>e=.returned (.int .i64 j)∧Below w.heap.size w w':=by
 subst hj;exact findAt H hm v c k h0 h1 ho h72
set_option maxRecDepth 100000 in
theorem getNo (H:RH E w L h d Sv.run) (hm:Hier.may E.f.classes=true) (v:Vl) (c k:Int) (h0:0≤v.n) (h1:v.n < h.objs.length) (ho:ofT E.f.classes h v ⟨3,c⟩=true) (h72:(obj h v.n).held.length≤72) (hj:¬ idx (obj h v.n).held (c,k) < (obj h v.n).held.length) :
  Calls Try.prog 203 #[.pointer (some ⟨E.hb,0,none⟩),.agg #[.int .i64 v.kind,.int .i64 v.n],.int .i64 c,.int .i64 k] w (Keeps E L h d Sv.run w (.agg #[.int .i64 0,.int .i64 0])):=by
 have HH:=Lib.hid H;have hhb:=H.rows.base.2;have hp:=Lib.hid ho;have hJ:Hid (at_ (obj h v.n).held (c,k) = -1):=by show _=_;unfold at_;rw [if_neg hj]
 clear H ho hj
 go_enter Try.func203,Try.ntmps203
 go_wp2_with (go_at_call 199;refine (findAtV (HH.out.below (by exact Rd.byB)) hm ⟨v.kind,v.n⟩ c k h0 h1 hp.out h72 hJ.out).mono ?_;rintro e w1 ⟨rfl,hb1⟩;have K1:Kp (own E L) _ w1:=kpB hb1;have H1:=(HH.out.below (by exact Rd.byB)).below hb1;have r0:=K1.cell (c:=w.heap.size+1) (o:=0) (v:=.int .i64 0) (by go_simp) (fun hk=>(fresh_b HH.out (by omega)).2 hk);have r1:=K1.cell (c:=w.heap.size+1) (o:=1) (v:=.int .i64 0) (by go_simp) (fun hk=>(fresh_b HH.out (by omega)).2 hk);have f0:=K1.frz (c:=w.heap.size+1) (o:=0) (b:=false) (by go_simp) (by simp) (fun hk=>(fresh_b HH.out (by omega)).2 hk);have f1:=K1.frz (c:=w.heap.size+1) (o:=1) (b:=false) (by go_simp) (by simp) (fun hk=>(fresh_b HH.out (by omega)).2 hk);replace H1:=Lib.hid H1;replace K1:=Lib.hid K1)
 refine bodyPost_ret (v:=.agg #[.int .i64 0,.int .i64 0]) (by simp [results,Try.results203,go_sem] <;> go_simp) rfl ?_
 exact ⟨rfl,H1.out.res2 (fresh_b HH.out (by omega)) _ _,kres2 ((kpB (by exact Rd.byB)).trans K1.out (fun _ hy=>.inl hy)) (by omega) _ _⟩
set_option maxRecDepth 100000 in
theorem getAt (H:RH E w L h d Sv.run) (hm:Hier.may E.f.classes=true) (v:Vl) (c k:Int) (h0:0≤v.n) (h1:v.n < h.objs.length) (ho:ofT E.f.classes h v ⟨3,c⟩=true) (h72:(obj h v.n).held.length≤72) (hj:idx (obj h v.n).held (c,k) < (obj h v.n).held.length) (x:Vl) (hx:find (obj h v.n).held (c,k)=x) :
  Calls Try.prog 203 #[.pointer (some ⟨E.hb,0,none⟩),.agg #[.int .i64 v.kind,.int .i64 v.n],.int .i64 c,.int .i64 k] w (Keeps E L h d Sv.run w (.agg #[.int .i64 x.kind,.int .i64 x.n])):=by
 have HH:=Lib.hid H;have hhb:=H.rows.base.2;have hp:=Lib.hid ho;obtain ⟨j,hjj⟩:∃ j,idx (obj h v.n).held (c,k)=j:=⟨_,rfl⟩;rw [hjj] at hj;have hJ:Hid (at_ (obj h v.n).held (c,k)=j):=by show _=_;unfold at_;rw [hjj,if_pos hj]
 have hX:Hid (((obj h v.n).held[j]).2=x):=by show _=_;rw [← hx,find_at (by rw [hjj];exact hj)];congr 2;exact hjj.symm
 obtain ⟨g,cap,hvb,c1,c2,hg,hgne,_,o2⟩:=H.ob h0 h1;have b2:=H.c2;rw [hvb] at b2;have hro:=H.held h0 h1;obtain ⟨ha,hcap,hhv,e1,e2,_,hlt⟩:=row_form hro (by omega)
 rw [hhv] at o2 hro;obtain ⟨_,_,z2,z3⟩:=hcells_get _ j hj;rw [hX.out] at z2 z3;replace z2:=row_cell hro z2;replace z3:=row_cell hro z3;have hnk:v.n.toNat < h.objs.length:=by omega
 clear H ho hhv hvb hjj hx hro
 go_enter Try.func203,Try.ntmps203
 go_wp2_with (go_at_call 199;refine (findAtV (HH.out.below (by exact Rd.byB)) hm ⟨v.kind,v.n⟩ c k h0 h1 hp.out h72 hJ.out).mono ?_;rintro e w1 ⟨rfl,hb1⟩;have K1:Kp (own E L) _ w1:=kpB hb1;have H1:=(HH.out.below (by exact Rd.byB)).below hb1;have hB:=Lib.hid (show Below w.heap.size w w1 from Below.trans (by exact Rd.byB) (hb1.mono (by simp <;> omega)));have y1:=kept hb1 (b:=w.heap.size) (o:=1) (v:=.int .i64 v.n) (by simp <;> omega) (by go_simp);have y2:=kept hB.out (cell_lt b2) b2;have y3:=kept hB.out (cell_lt o2) o2;have y4:=kept hB.out (cell_lt z2) z2;have y5:=kept hB.out (cell_lt z3) z3;clear hb1;have r0:=K1.cell (c:=w.heap.size+1) (o:=0) (v:=.int .i64 0) (by go_simp) (fun hk=>(fresh_b HH.out (by omega)).2 hk);have r1:=K1.cell (c:=w.heap.size+1) (o:=1) (v:=.int .i64 0) (by go_simp) (fun hk=>(fresh_b HH.out (by omega)).2 hk);have f0:=K1.frz (c:=w.heap.size+1) (o:=0) (b:=false) (by go_simp) (by simp) (fun hk=>(fresh_b HH.out (by omega)).2 hk);have f1:=K1.frz (c:=w.heap.size+1) (o:=1) (b:=false) (by go_simp) (by simp) (fun hk=>(fresh_b HH.out (by omega)).2 hk);replace H1:=Lib.hid H1;replace K1:=Lib.hid K1)
 go_still_tail 13,(by kernel_rfl)
 go_wp2
 refine bodyPost_ret (v:=.agg #[.int .i64 x.kind,.int .i64 x.n]) (by simp [results,Try.results203,go_sem] <;> go_simp) rfl ?_
 have Q:=H1.out.res2 (b:=w.heap.size+1) (fresh_b HH.out (by omega)) (.int .i64 x.kind) (.int .i64 x.n)
 have Q2:=kres2 (X:=own E L) (w0:=w) (b:=w.heap.size+1) ((kpB (by exact Rd.byB)).trans K1.out (fun _ hy=>.inl hy)) (by omega) (.int .i64 x.kind) (.int .i64 x.n)
 exact ⟨rfl,Q.below (by exact Rd.byB),kb Q2 (by exact Rd.byB)⟩
end
end Rhw
namespace Rhw
open Num Rd D Run Mem HierW Hpw
section
variable {E:Ev}{w w':World}{L L':RL}{h h':Hp}{d:Nat}{s:Sv}
set_option maxRecDepth 100000 in
theorem putType (H:RH E w L h d Sv.run) (hm:Hier.may E.f.classes=true) (r v:Vl) (c k:Nat) (hv:v.kind=3→v.n < h.objs.length) (hc:c < E.f.classes.length) (hk:k < (Hier.at' E.f.classes c).fields.length) (ht:ofT E.f.classes h v (ftype E.f.classes c k)=false) :
  Calls Try.prog 159 #[.pointer (some ⟨E.hb,0,none⟩),.agg #[.int .i64 r.kind,.int .i64 r.n],.int .i64 c,.int .i64 k,.agg #[.int .i64 v.kind,.int .i64 v.n]] w (Keeps E L h d (Sv.ends 6) w (.tuple #[])):=by
 have HH:=Lib.hid H;have hhb:=H.rows.base.2;have hp:=Lib.hid ht;have b0:=H.c0;obtain ⟨ca,ccap,hvc,c1,c2,hel⟩:=id H.rows.cls;obtain ⟨cb,co,rfl,hcb,he⟩:=hel c hc;obtain ⟨x,hx⟩:=at_of hc;rw [hx.out] at he;obtain ⟨_,_,fv,e2,hf⟩:=he;have hfx:Hier.at' E.f.classes c=x:=at'_of hc hx.out;rw [hfx] at hk;obtain ⟨fa,fcap,rfl,c3,c4,hfe⟩:=hf;obtain ⟨fb,fo,rfl,hfb,hfe2⟩:=hfe k hk;obtain ⟨t,htt⟩:=at_of hk;rw [htt.out] at hfe2;obtain ⟨t1,t2,_,_⟩:=hfe2
 have hft:Hid (ftype E.f.classes c k=t):=by
  show _=_
  unfold ftype;rw [Int.toNat_natCast,Int.toNat_natCast,hfx,List.getD_eq_getElem?_getD,List.getElem?_eq_getElem hk,htt.out];rfl
 rw [hft.out] at hp;rw [hvc] at b0;have hci:(c:Int) < E.f.classes.length:=by omega
 have hki:(k:Int) < x.fields.length:=by omega
 have hbs:E.B≤w.heap.size:=by have:=H.rows.base;omega
 have lcb:cb < w.heap.size:=by omega
 have lfb:fb < w.heap.size:=by omega
 have hcb2:cb≠E.hb:=by have:=H.rows.base.1;omega
 have hfb2:fb≠E.hb:=by have:=H.rows.base.1;omega
 clear H ht hvc hel hfx hfe
 go_enter Try.func159,Try.ntmps159
 go_wp2
 refine Drawn.hd (fun w'=>w'.cell? ⟨E.hb,0,none⟩=some (.slice (some ⟨cb,co,none⟩) E.f.classes.length ccap)∧w'.cell? ⟨cb,co+c*2+1,none⟩=some (.slice (some ⟨fb,fo,none⟩) x.fields.length fcap)∧w'.cell? ⟨fb,fo+k*2,none⟩=some (.int .i64 t.kind)∧w'.cell? ⟨fb,fo+k*2+1,none⟩=some (.int .i64 t.cls)∧w'.cell? ⟨w.heap.size+1,0,none⟩=some (.int .i64 v.kind)∧w'.cell? ⟨w.heap.size+1,1,none⟩=some (.int .i64 v.n)) (h:=fun hHeld=>?_);refine dT 0 11 ?_;refine dT 1 12 ?_;refine dT 2 13 ?_;refine dT 3 14 ?_;refine dT 4 15 ?_;refine dT 5 16 ?_;refine dT 6 17 ?_;refine dT 7 18 ?_;refine dT 8 19 ?_;refine dT 9 20 ?_;refine dT 10 21 ?_;refine dT 11 22 ?_;refine dT 12 23 ?_;refine dT 13 24 ?_;refine dT 14 25 ?_;refine Drawn.cl 15 (fun K hK=>?_);go_simp
 go_at_call 106
 refine (ofV (HH.out.below (by exact Rd.byB)) hm ⟨v.kind,v.n⟩ t _ hp.out hv).mono ?_
 rintro e w1 ⟨rfl,hb1⟩;have kk:∀ (b o:Nat) (u:Value),World.cell? _ ⟨b,o,none⟩=some u→w1.cell? ⟨b,o,none⟩=some u:=fun b o u hc=>kept hb1 (cell_lt hc) hc;have y0:=kk E.hb 0 (.slice (some ⟨cb,co,none⟩) E.f.classes.length ccap) (by go_simp)
 have y1:=kk cb (co+c*2+1) (.slice (some ⟨fb,fo,none⟩) x.fields.length fcap) (by go_simp)
 have y2:=kk fb (fo+k*2) (.int .i64 t.kind) (by go_simp)
 have y3:=kk fb (fo+k*2+1) (.int .i64 t.cls) (by go_simp)
 have y4:=kk (w.heap.size+1) 0 (.int .i64 v.kind) (by go_simp)
 have y5:=kk (w.heap.size+1) 1 (.int .i64 v.n) (by go_simp)
 have y6:=kk w.heap.size 0 (.int .i64 r.kind) (by go_simp)
 have y7:=kk w.heap.size 1 (.int .i64 r.n) (by go_simp)
 have HB1:=Lib.hid (show Below w.heap.size w w1 from Below.trans (by exact Rd.byB) (hb1.mono (by simp <;> omega)))
 have hz1:w.heap.size+1+1≤w1.heap.size:=by have:=hb1.size;simpa using this
 clear kk hb1
 go_wp2_with fail
 refine Drawn.bk hK (hS:=by (try dsimp only);exact ⟨y0,y1,y2,y3,y4,y5⟩) (h:=fun hHeld=>?_)
 clear hK K;refine Drawn.cl 16 (fun K hK=>?_);go_simp
 go_at_call 104
 refine (mustF (HH.out.below HB1.out) rfl).mono ?_;rintro e w2 ⟨rfl,rfl⟩;have nb:∀ b,b < w1.heap.size→b≠E.hb→∀ o u,w1.cell? ⟨b,o,none⟩=some u→((w1.setCell ⟨E.hb,12,none⟩ (.bool true)).setCell ⟨E.hb,6,none⟩ (.int .i64 6)).cell? ⟨b,o,none⟩=some u:=fun b _ hne o u hc=>((Kp.setCell (Kp.setCell (Kp.refl (fun k=>k=E.hb) w1) (p:=⟨E.hb,12,none⟩) (.inl rfl) _) (p:=⟨E.hb,6,none⟩) (.inl rfl) _).cell hc hne)
 go_wp2_with fail
 refine Drawn.bk hK (hS:=by (try dsimp only);exact ⟨by go_simp,nb _ (by have:=HB1.out.size;omega) (by omega) _ _ y1,nb _ (by have:=HB1.out.size;omega) (by omega) _ _ y2,nb _ (by have:=HB1.out.size;omega) (by omega) _ _ y3,nb _ (by have:=HB1.out.size;omega) (by omega) _ _ y4,nb _ (by have:=HB1.out.size;omega) (by omega) _ _ y5⟩) (h:=fun hHeld=>?_)
 clear hK K;refine dT 17 28 ?_;refine dN ?_
 go_wp2_with fail
 go_end0
 exact ⟨rfl,ended HH.out rfl 6 HB1.out⟩
set_option maxRecDepth 100000 in
theorem putStuck (H:RH E w L h d Sv.run) (hm:Hier.may E.f.classes=true) (r v:Vl) (c k:Nat) (hv:v.kind=3→v.n < h.objs.length) (hc:c < E.f.classes.length) (hk:k < (Hier.at' E.f.classes c).fields.length) (ht:ofT E.f.classes h v (ftype E.f.classes c k)=true) (hr:r.kind=3→r.n < h.objs.length) (ho:ofT E.f.classes h r ⟨3,c⟩=false) :
  Calls Try.prog 159 #[.pointer (some ⟨E.hb,0,none⟩),.agg #[.int .i64 r.kind,.int .i64 r.n],.int .i64 c,.int .i64 k,.agg #[.int .i64 v.kind,.int .i64 v.n]] w (Keeps E L h d (Sv.ends 6) w (.tuple #[])):=by
 have HH:=Lib.hid H;have hhb:=H.rows.base.2;have hp:=Lib.hid ht;have b0:=H.c0;obtain ⟨ca,ccap,hvc,c1,c2,hel⟩:=id H.rows.cls;obtain ⟨cb,co,rfl,hcb,he⟩:=hel c hc;obtain ⟨x,hx⟩:=at_of hc;rw [hx.out] at he;obtain ⟨_,_,fv,e2,hf⟩:=he;have hfx:Hier.at' E.f.classes c=x:=at'_of hc hx.out;rw [hfx] at hk;obtain ⟨fa,fcap,rfl,c3,c4,hfe⟩:=hf;obtain ⟨fb,fo,rfl,hfb,hfe2⟩:=hfe k hk;obtain ⟨t,htt⟩:=at_of hk;rw [htt.out] at hfe2;obtain ⟨t1,t2,_,_⟩:=hfe2
 have hft:Hid (ftype E.f.classes c k=t):=by
  show _=_
  unfold ftype;rw [Int.toNat_natCast,Int.toNat_natCast,hfx,List.getD_eq_getElem?_getD,List.getElem?_eq_getElem hk,htt.out];rfl
 rw [hft.out] at hp;rw [hvc] at b0;have hci:(c:Int) < E.f.classes.length:=by omega
 have hki:(k:Int) < x.fields.length:=by omega
 have hbs:E.B≤w.heap.size:=by have:=H.rows.base;omega
 have lcb:cb < w.heap.size:=by omega
 have lfb:fb < w.heap.size:=by omega
 replace ho:=Lib.hid ho;clear H ht hvc hel hfx hfe
 go_enter Try.func159,Try.ntmps159
 go_wp2
 refine Drawn.hd (fun w'=>w'.cell? ⟨E.hb,0,none⟩=some (.slice (some ⟨cb,co,none⟩) E.f.classes.length ccap)∧w'.cell? ⟨cb,co+c*2+1,none⟩=some (.slice (some ⟨fb,fo,none⟩) x.fields.length fcap)∧w'.cell? ⟨fb,fo+k*2,none⟩=some (.int .i64 t.kind)∧w'.cell? ⟨fb,fo+k*2+1,none⟩=some (.int .i64 t.cls)∧w'.cell? ⟨w.heap.size+1,0,none⟩=some (.int .i64 v.kind)∧w'.cell? ⟨w.heap.size+1,1,none⟩=some (.int .i64 v.n)) (h:=fun hHeld=>?_);refine dT 0 11 ?_;refine dT 1 12 ?_;refine dT 2 13 ?_;refine dT 3 14 ?_;refine dT 4 15 ?_;refine dT 5 16 ?_;refine dT 6 17 ?_;refine dT 7 18 ?_;refine dT 8 19 ?_;refine dT 9 20 ?_;refine dT 10 21 ?_;refine dT 11 22 ?_;refine dT 12 23 ?_;refine dT 13 24 ?_;refine dT 14 25 ?_;refine Drawn.cl 15 (fun K hK=>?_);go_simp
 go_at_call 106
 refine (ofV (HH.out.below (by exact Rd.byB)) hm ⟨v.kind,v.n⟩ t _ hp.out hv).mono ?_
 rintro e w1 ⟨rfl,hb1⟩;have kk:∀ (b o:Nat) (u:Value),World.cell? _ ⟨b,o,none⟩=some u→w1.cell? ⟨b,o,none⟩=some u:=fun b o u hc=>kept hb1 (cell_lt hc) hc;have y0:=kk E.hb 0 (.slice (some ⟨cb,co,none⟩) E.f.classes.length ccap) (by go_simp)
 have y1:=kk cb (co+c*2+1) (.slice (some ⟨fb,fo,none⟩) x.fields.length fcap) (by go_simp)
 have y2:=kk fb (fo+k*2) (.int .i64 t.kind) (by go_simp)
 have y3:=kk fb (fo+k*2+1) (.int .i64 t.cls) (by go_simp)
 have y4:=kk (w.heap.size+1) 0 (.int .i64 v.kind) (by go_simp)
 have y5:=kk (w.heap.size+1) 1 (.int .i64 v.n) (by go_simp)
 have y6:=kk w.heap.size 0 (.int .i64 r.kind) (by go_simp)
 have y7:=kk w.heap.size 1 (.int .i64 r.n) (by go_simp)
 have HB1:=Lib.hid (show Below w.heap.size w w1 from Below.trans (by exact Rd.byB) (hb1.mono (by simp <;> omega)))
 have hz1:w.heap.size+1+1≤w1.heap.size:=by have:=hb1.size;simpa using this
 clear kk hb1
 go_wp2_with fail
 refine Drawn.bk hK (hS:=by (try dsimp only);exact ⟨y0,y1,y2,y3,y4,y5⟩) (h:=fun hHeld=>?_)
 clear hK K;refine Drawn.cl 16 (fun K hK=>?_);go_simp
 go_at_call 104
 refine (mustT (HH.out.below HB1.out) rfl).mono ?_;rintro e w2 ⟨rfl,rfl⟩
 go_wp2_with fail
 refine Drawn.bk hK (hS:=by (try dsimp only);exact ⟨y0,y1,y2,y3,y4,y5⟩) (h:=fun hHeld=>?_)
 clear hK K;refine dT 17 28 ?_;refine dN ?_
 go_wp2_with (go_at_call 199;refine (findStuck (HH.out.below HB1.out) hm ⟨r.kind,r.n⟩ c k hr ho.out).mono ?_;rintro e w2 ⟨⟨v,rfl,rfl⟩,H2,K2⟩;replace H2:=Lib.hid H2;replace K2:=Lib.hid K2)
 go_end0
 exact ⟨rfl,H2.out,(kpB HB1.out).trans K2.out (fun _ hy=>.inl hy)⟩
set_option maxRecDepth 100000 in
theorem putFull (H:RH E w L h d Sv.run) (hm:Hier.may E.f.classes=true) (r v:Vl) (c k:Nat) (hv:v.kind=3→v.n < h.objs.length) (hc:c < E.f.classes.length) (hk:k < (Hier.at' E.f.classes c).fields.length) (ht:ofT E.f.classes h v (ftype E.f.classes c k)=true) (hn:r.n < 0) (ho:ofT E.f.classes h r ⟨3,c⟩=true) (q:100≤h.objs.length) :
  Calls Try.prog 159 #[.pointer (some ⟨E.hb,0,none⟩),.agg #[.int .i64 r.kind,.int .i64 r.n],.int .i64 c,.int .i64 k,.agg #[.int .i64 v.kind,.int .i64 v.n]] w (Keeps E L h d (Sv.ends 4) w (.tuple #[])):=by
 have HH:=Lib.hid H;have hhb:=H.rows.base.2;have hp:=Lib.hid ht;have b0:=H.c0;obtain ⟨ca,ccap,hvc,c1,c2,hel⟩:=id H.rows.cls;obtain ⟨cb,co,rfl,hcb,he⟩:=hel c hc;obtain ⟨x,hx⟩:=at_of hc;rw [hx.out] at he;obtain ⟨_,_,fv,e2,hf⟩:=he;have hfx:Hier.at' E.f.classes c=x:=at'_of hc hx.out;rw [hfx] at hk;obtain ⟨fa,fcap,rfl,c3,c4,hfe⟩:=hf;obtain ⟨fb,fo,rfl,hfb,hfe2⟩:=hfe k hk;obtain ⟨t,htt⟩:=at_of hk;rw [htt.out] at hfe2;obtain ⟨t1,t2,_,_⟩:=hfe2
 have hft:Hid (ftype E.f.classes c k=t):=by
  show _=_
  unfold ftype;rw [Int.toNat_natCast,Int.toNat_natCast,hfx,List.getD_eq_getElem?_getD,List.getElem?_eq_getElem hk,htt.out];rfl
 rw [hft.out] at hp;rw [hvc] at b0;have hci:(c:Int) < E.f.classes.length:=by omega
 have hki:(k:Int) < x.fields.length:=by omega
 have hbs:E.B≤w.heap.size:=by have:=H.rows.base;omega
 have lcb:cb < w.heap.size:=by omega
 have lfb:fb < w.heap.size:=by omega
 replace ho:=Lib.hid ho;clear H ht hvc hel hfx hfe
 go_enter Try.func159,Try.ntmps159
 go_wp2
 refine Drawn.hd (fun w'=>w'.cell? ⟨E.hb,0,none⟩=some (.slice (some ⟨cb,co,none⟩) E.f.classes.length ccap)∧w'.cell? ⟨cb,co+c*2+1,none⟩=some (.slice (some ⟨fb,fo,none⟩) x.fields.length fcap)∧w'.cell? ⟨fb,fo+k*2,none⟩=some (.int .i64 t.kind)∧w'.cell? ⟨fb,fo+k*2+1,none⟩=some (.int .i64 t.cls)∧w'.cell? ⟨w.heap.size+1,0,none⟩=some (.int .i64 v.kind)∧w'.cell? ⟨w.heap.size+1,1,none⟩=some (.int .i64 v.n)) (h:=fun hHeld=>?_);refine dT 0 11 ?_;refine dT 1 12 ?_;refine dT 2 13 ?_;refine dT 3 14 ?_;refine dT 4 15 ?_;refine dT 5 16 ?_;refine dT 6 17 ?_;refine dT 7 18 ?_;refine dT 8 19 ?_;refine dT 9 20 ?_;refine dT 10 21 ?_;refine dT 11 22 ?_;refine dT 12 23 ?_;refine dT 13 24 ?_;refine dT 14 25 ?_;refine Drawn.cl 15 (fun K hK=>?_);go_simp
 go_at_call 106
 refine (ofV (HH.out.below (by exact Rd.byB)) hm ⟨v.kind,v.n⟩ t _ hp.out hv).mono ?_
 rintro e w1 ⟨rfl,hb1⟩;have kk:∀ (b o:Nat) (u:Value),World.cell? _ ⟨b,o,none⟩=some u→w1.cell? ⟨b,o,none⟩=some u:=fun b o u hc=>kept hb1 (cell_lt hc) hc;have y0:=kk E.hb 0 (.slice (some ⟨cb,co,none⟩) E.f.classes.length ccap) (by go_simp)
 have y1:=kk cb (co+c*2+1) (.slice (some ⟨fb,fo,none⟩) x.fields.length fcap) (by go_simp)
 have y2:=kk fb (fo+k*2) (.int .i64 t.kind) (by go_simp)
 have y3:=kk fb (fo+k*2+1) (.int .i64 t.cls) (by go_simp)
 have y4:=kk (w.heap.size+1) 0 (.int .i64 v.kind) (by go_simp)
 have y5:=kk (w.heap.size+1) 1 (.int .i64 v.n) (by go_simp)
 have y6:=kk w.heap.size 0 (.int .i64 r.kind) (by go_simp)
 have y7:=kk w.heap.size 1 (.int .i64 r.n) (by go_simp)
 have HB1:=Lib.hid (show Below w.heap.size w w1 from Below.trans (by exact Rd.byB) (hb1.mono (by simp <;> omega)))
 have hz1:w.heap.size+1+1≤w1.heap.size:=by have:=hb1.size;simpa using this
 clear kk hb1
 go_wp2_with fail
 refine Drawn.bk hK (hS:=by (try dsimp only);exact ⟨y0,y1,y2,y3,y4,y5⟩) (h:=fun hHeld=>?_)
 clear hK K;refine Drawn.cl 16 (fun K hK=>?_);go_simp
 go_at_call 104
 refine (mustT (HH.out.below HB1.out) rfl).mono ?_;rintro e w2 ⟨rfl,rfl⟩
 go_wp2_with fail
 refine Drawn.bk hK (hS:=by (try dsimp only);exact ⟨y0,y1,y2,y3,y4,y5⟩) (h:=fun hHeld=>?_)
 clear hK K;refine dT 17 28 ?_;refine dN ?_
 go_wp2_with (go_at_call 199;refine (findFull (HH.out.below HB1.out) hm ⟨r.kind,r.n⟩ c k hn ho.out q).mono ?_;rintro e w2 ⟨⟨v,rfl,rfl⟩,H2,K2⟩;replace H2:=Lib.hid H2;replace K2:=Lib.hid K2)
 go_end0
 exact ⟨rfl,H2.out,(kpB HB1.out).trans K2.out (fun _ hy=>.inl hy)⟩
set_option maxRecDepth 100000 in
theorem putNull (H:RH E w L h d Sv.run) (hm:Hier.may E.f.classes=true) (r v:Vl) (c k:Nat) (hv:v.kind=3→v.n < h.objs.length) (hc:c < E.f.classes.length) (hk:k < (Hier.at' E.f.classes c).fields.length) (ht:ofT E.f.classes h v (ftype E.f.classes c k)=true) (hn:r.n < 0) (ho:ofT E.f.classes h r ⟨3,c⟩=true) (q:h.objs.length < 100) :
  Calls Try.prog 159 #[.pointer (some ⟨E.hb,0,none⟩),.agg #[.int .i64 r.kind,.int .i64 r.n],.int .i64 c,.int .i64 k,.agg #[.int .i64 v.kind,.int .i64 v.n]] w (Gives E L (more h ⟨1,fresh E.f.classes 1⟩) d (Sv.thr h.objs.length) w (.tuple #[])):=by
 have HH:=Lib.hid H;have hhb:=H.rows.base.2;have hp:=Lib.hid ht;have b0:=H.c0;obtain ⟨ca,ccap,hvc,c1,c2,hel⟩:=id H.rows.cls;obtain ⟨cb,co,rfl,hcb,he⟩:=hel c hc;obtain ⟨x,hx⟩:=at_of hc;rw [hx.out] at he;obtain ⟨_,_,fv,e2,hf⟩:=he;have hfx:Hier.at' E.f.classes c=x:=at'_of hc hx.out;rw [hfx] at hk;obtain ⟨fa,fcap,rfl,c3,c4,hfe⟩:=hf;obtain ⟨fb,fo,rfl,hfb,hfe2⟩:=hfe k hk;obtain ⟨t,htt⟩:=at_of hk;rw [htt.out] at hfe2;obtain ⟨t1,t2,_,_⟩:=hfe2
 have hft:Hid (ftype E.f.classes c k=t):=by
  show _=_
  unfold ftype;rw [Int.toNat_natCast,Int.toNat_natCast,hfx,List.getD_eq_getElem?_getD,List.getElem?_eq_getElem hk,htt.out];rfl
 rw [hft.out] at hp;rw [hvc] at b0;have hci:(c:Int) < E.f.classes.length:=by omega
 have hki:(k:Int) < x.fields.length:=by omega
 have hbs:E.B≤w.heap.size:=by have:=H.rows.base;omega
 have lcb:cb < w.heap.size:=by omega
 have lfb:fb < w.heap.size:=by omega
 replace ho:=Lib.hid ho;clear H ht hvc hel hfx hfe
 go_enter Try.func159,Try.ntmps159
 go_wp2
 refine Drawn.hd (fun w'=>w'.cell? ⟨E.hb,0,none⟩=some (.slice (some ⟨cb,co,none⟩) E.f.classes.length ccap)∧w'.cell? ⟨cb,co+c*2+1,none⟩=some (.slice (some ⟨fb,fo,none⟩) x.fields.length fcap)∧w'.cell? ⟨fb,fo+k*2,none⟩=some (.int .i64 t.kind)∧w'.cell? ⟨fb,fo+k*2+1,none⟩=some (.int .i64 t.cls)∧w'.cell? ⟨w.heap.size+1,0,none⟩=some (.int .i64 v.kind)∧w'.cell? ⟨w.heap.size+1,1,none⟩=some (.int .i64 v.n)) (h:=fun hHeld=>?_);refine dT 0 11 ?_;refine dT 1 12 ?_;refine dT 2 13 ?_;refine dT 3 14 ?_;refine dT 4 15 ?_;refine dT 5 16 ?_;refine dT 6 17 ?_;refine dT 7 18 ?_;refine dT 8 19 ?_;refine dT 9 20 ?_;refine dT 10 21 ?_;refine dT 11 22 ?_;refine dT 12 23 ?_;refine dT 13 24 ?_;refine dT 14 25 ?_;refine Drawn.cl 15 (fun K hK=>?_);go_simp
 go_at_call 106
 refine (ofV (HH.out.below (by exact Rd.byB)) hm ⟨v.kind,v.n⟩ t _ hp.out hv).mono ?_
 rintro e w1 ⟨rfl,hb1⟩;have kk:∀ (b o:Nat) (u:Value),World.cell? _ ⟨b,o,none⟩=some u→w1.cell? ⟨b,o,none⟩=some u:=fun b o u hc=>kept hb1 (cell_lt hc) hc;have y0:=kk E.hb 0 (.slice (some ⟨cb,co,none⟩) E.f.classes.length ccap) (by go_simp)
 have y1:=kk cb (co+c*2+1) (.slice (some ⟨fb,fo,none⟩) x.fields.length fcap) (by go_simp)
 have y2:=kk fb (fo+k*2) (.int .i64 t.kind) (by go_simp)
 have y3:=kk fb (fo+k*2+1) (.int .i64 t.cls) (by go_simp)
 have y4:=kk (w.heap.size+1) 0 (.int .i64 v.kind) (by go_simp)
 have y5:=kk (w.heap.size+1) 1 (.int .i64 v.n) (by go_simp)
 have y6:=kk w.heap.size 0 (.int .i64 r.kind) (by go_simp)
 have y7:=kk w.heap.size 1 (.int .i64 r.n) (by go_simp)
 have HB1:=Lib.hid (show Below w.heap.size w w1 from Below.trans (by exact Rd.byB) (hb1.mono (by simp <;> omega)))
 have hz1:w.heap.size+1+1≤w1.heap.size:=by have:=hb1.size;simpa using this
 clear kk hb1
 go_wp2_with fail
 refine Drawn.bk hK (hS:=by (try dsimp only);exact ⟨y0,y1,y2,y3,y4,y5⟩) (h:=fun hHeld=>?_)
 clear hK K;refine Drawn.cl 16 (fun K hK=>?_);go_simp
 go_at_call 104
 refine (mustT (HH.out.below HB1.out) rfl).mono ?_;rintro e w2 ⟨rfl,rfl⟩
 go_wp2_with fail
 refine Drawn.bk hK (hS:=by (try dsimp only);exact ⟨y0,y1,y2,y3,y4,y5⟩) (h:=fun hHeld=>?_)
 clear hK K;refine dT 17 28 ?_;refine dN ?_
 go_wp2_with (go_at_call 199;refine (findNull (HH.out.below HB1.out) hm ⟨r.kind,r.n⟩ c k hn ho.out q).mono ?_;rintro e w2 ⟨rfl,L2,H2,K2,N2⟩;replace H2:=Lib.hid H2;replace K2:=Lib.hid K2;replace N2:=Lib.hid N2)
 go_end0
 exact ⟨rfl,L2,H2.out,(kpB HB1.out).trans K2.out (fun _ hy=>.inl hy),fun k hk=>(N2.out k hk).imp_right (fun h=>Nat.le_trans HB1.out.size h)⟩
set_option maxRecDepth 100000 in
theorem putNo (H:RH E w L h d Sv.run) (hm:Hier.may E.f.classes=true) (r v:Vl) (c k:Nat) (hv:v.kind=3→v.n < h.objs.length) (hc:c < E.f.classes.length) (hk:k < (Hier.at' E.f.classes c).fields.length) (ht:ofT E.f.classes h v (ftype E.f.classes c k)=true) (h0:0≤r.n) (h1:r.n < h.objs.length) (ho:ofT E.f.classes h r ⟨3,c⟩=true) (h72:(obj h r.n).held.length≤72) (hj:¬ idx (obj h r.n).held (c,k) < (obj h r.n).held.length) :
  Calls Try.prog 159 #[.pointer (some ⟨E.hb,0,none⟩),.agg #[.int .i64 r.kind,.int .i64 r.n],.int .i64 c,.int .i64 k,.agg #[.int .i64 v.kind,.int .i64 v.n]] w (Keeps E L h d Sv.run w (.tuple #[])):=by
 have HH:=Lib.hid H;have hhb:=H.rows.base.2;have hp:=Lib.hid ht;have b0:=H.c0;obtain ⟨ca,ccap,hvc,c1,c2,hel⟩:=id H.rows.cls;obtain ⟨cb,co,rfl,hcb,he⟩:=hel c hc;obtain ⟨x,hx⟩:=at_of hc;rw [hx.out] at he;obtain ⟨_,_,fv,e2,hf⟩:=he;have hfx:Hier.at' E.f.classes c=x:=at'_of hc hx.out;rw [hfx] at hk;obtain ⟨fa,fcap,rfl,c3,c4,hfe⟩:=hf;obtain ⟨fb,fo,rfl,hfb,hfe2⟩:=hfe k hk;obtain ⟨t,htt⟩:=at_of hk;rw [htt.out] at hfe2;obtain ⟨t1,t2,_,_⟩:=hfe2
 have hft:Hid (ftype E.f.classes c k=t):=by
  show _=_
  unfold ftype;rw [Int.toNat_natCast,Int.toNat_natCast,hfx,List.getD_eq_getElem?_getD,List.getElem?_eq_getElem hk,htt.out];rfl
 rw [hft.out] at hp;rw [hvc] at b0;have hci:(c:Int) < E.f.classes.length:=by omega
 have hki:(k:Int) < x.fields.length:=by omega
 have hbs:E.B≤w.heap.size:=by have:=H.rows.base;omega
 have lcb:cb < w.heap.size:=by omega
 have lfb:fb < w.heap.size:=by omega
 replace ho:=Lib.hid ho;have hJ:Hid (at_ (obj h r.n).held (c,k) = -1):=by show _=_;unfold at_;rw [if_neg hj]
 clear hj;clear H ht hvc hel hfx hfe
 go_enter Try.func159,Try.ntmps159
 go_wp2
 refine Drawn.hd (fun w'=>w'.cell? ⟨E.hb,0,none⟩=some (.slice (some ⟨cb,co,none⟩) E.f.classes.length ccap)∧w'.cell? ⟨cb,co+c*2+1,none⟩=some (.slice (some ⟨fb,fo,none⟩) x.fields.length fcap)∧w'.cell? ⟨fb,fo+k*2,none⟩=some (.int .i64 t.kind)∧w'.cell? ⟨fb,fo+k*2+1,none⟩=some (.int .i64 t.cls)∧w'.cell? ⟨w.heap.size+1,0,none⟩=some (.int .i64 v.kind)∧w'.cell? ⟨w.heap.size+1,1,none⟩=some (.int .i64 v.n)) (h:=fun hHeld=>?_);refine dT 0 11 ?_;refine dT 1 12 ?_;refine dT 2 13 ?_;refine dT 3 14 ?_;refine dT 4 15 ?_;refine dT 5 16 ?_;refine dT 6 17 ?_;refine dT 7 18 ?_;refine dT 8 19 ?_;refine dT 9 20 ?_;refine dT 10 21 ?_;refine dT 11 22 ?_;refine dT 12 23 ?_;refine dT 13 24 ?_;refine dT 14 25 ?_;refine Drawn.cl 15 (fun K hK=>?_);go_simp
 go_at_call 106
 refine (ofV (HH.out.below (by exact Rd.byB)) hm ⟨v.kind,v.n⟩ t _ hp.out hv).mono ?_
 rintro e w1 ⟨rfl,hb1⟩;have kk:∀ (b o:Nat) (u:Value),World.cell? _ ⟨b,o,none⟩=some u→w1.cell? ⟨b,o,none⟩=some u:=fun b o u hc=>kept hb1 (cell_lt hc) hc;have y0:=kk E.hb 0 (.slice (some ⟨cb,co,none⟩) E.f.classes.length ccap) (by go_simp)
 have y1:=kk cb (co+c*2+1) (.slice (some ⟨fb,fo,none⟩) x.fields.length fcap) (by go_simp)
 have y2:=kk fb (fo+k*2) (.int .i64 t.kind) (by go_simp)
 have y3:=kk fb (fo+k*2+1) (.int .i64 t.cls) (by go_simp)
 have y4:=kk (w.heap.size+1) 0 (.int .i64 v.kind) (by go_simp)
 have y5:=kk (w.heap.size+1) 1 (.int .i64 v.n) (by go_simp)
 have y6:=kk w.heap.size 0 (.int .i64 r.kind) (by go_simp)
 have y7:=kk w.heap.size 1 (.int .i64 r.n) (by go_simp)
 have HB1:=Lib.hid (show Below w.heap.size w w1 from Below.trans (by exact Rd.byB) (hb1.mono (by simp <;> omega)))
 have hz1:w.heap.size+1+1≤w1.heap.size:=by have:=hb1.size;simpa using this
 clear kk hb1
 go_wp2_with fail
 refine Drawn.bk hK (hS:=by (try dsimp only);exact ⟨y0,y1,y2,y3,y4,y5⟩) (h:=fun hHeld=>?_)
 clear hK K;refine Drawn.cl 16 (fun K hK=>?_);go_simp
 go_at_call 104
 refine (mustT (HH.out.below HB1.out) rfl).mono ?_;rintro e w2 ⟨rfl,rfl⟩
 go_wp2_with fail
 refine Drawn.bk hK (hS:=by (try dsimp only);exact ⟨y0,y1,y2,y3,y4,y5⟩) (h:=fun hHeld=>?_)
 clear hK K;refine dT 17 28 ?_;refine dN ?_
 go_wp2_with (go_at_call 199;refine (findAtV (HH.out.below HB1.out) hm ⟨r.kind,r.n⟩ c k h0 h1 ho.out h72 hJ.out).mono ?_;rintro e w2 ⟨rfl,hb2⟩;replace hb2:=Lib.hid hb2)
 go_end0
 exact ⟨rfl,(HH.out.below HB1.out).below hb2.out,kb (kpB HB1.out) hb2.out⟩
set_option maxRecDepth 100000 in
theorem putAt (H:RH E w L h d Sv.run) (hm:Hier.may E.f.classes=true) (r v:Vl) (c k:Nat) (hv:v.kind=3→v.n < h.objs.length) (hc:c < E.f.classes.length) (hk:k < (Hier.at' E.f.classes c).fields.length) (ht:ofT E.f.classes h v (ftype E.f.classes c k)=true) (h0:0≤r.n) (h1:r.n < h.objs.length) (ho:ofT E.f.classes h r ⟨3,c⟩=true) (h72:(obj h r.n).held.length≤72) (hj:idx (obj h r.n).held (c,k) < (obj h r.n).held.length) :
  Calls Try.prog 159 #[.pointer (some ⟨E.hb,0,none⟩),.agg #[.int .i64 r.kind,.int .i64 r.n],.int .i64 c,.int .i64 k,.agg #[.int .i64 v.kind,.int .i64 v.n]] w (Keeps E L (setOb h r.n ((obj h r.n).held.set (idx (obj h r.n).held ((c:Int),(k:Int))) (((c:Int),(k:Int)),v))) d Sv.run w (.tuple #[])):=by
 have HH:=Lib.hid H;have hhb:=H.rows.base.2;have hp:=Lib.hid ht;have b0:=H.c0;obtain ⟨ca,ccap,hvc,c1,c2,hel⟩:=id H.rows.cls;obtain ⟨cb,co,rfl,hcb,he⟩:=hel c hc;obtain ⟨x,hx⟩:=at_of hc;rw [hx.out] at he;obtain ⟨_,_,fv,e2,hf⟩:=he;have hfx:Hier.at' E.f.classes c=x:=at'_of hc hx.out;rw [hfx] at hk;obtain ⟨fa,fcap,rfl,c3,c4,hfe⟩:=hf;obtain ⟨fb,fo,rfl,hfb,hfe2⟩:=hfe k hk;obtain ⟨t,htt⟩:=at_of hk;rw [htt.out] at hfe2;obtain ⟨t1,t2,_,_⟩:=hfe2
 have hft:Hid (ftype E.f.classes c k=t):=by
  show _=_
  unfold ftype;rw [Int.toNat_natCast,Int.toNat_natCast,hfx,List.getD_eq_getElem?_getD,List.getElem?_eq_getElem hk,htt.out];rfl
 rw [hft.out] at hp;rw [hvc] at b0;have hci:(c:Int) < E.f.classes.length:=by omega
 have hki:(k:Int) < x.fields.length:=by omega
 have hbs:E.B≤w.heap.size:=by have:=H.rows.base;omega
 have lcb:cb < w.heap.size:=by omega
 have lfb:fb < w.heap.size:=by omega
 replace ho:=Lib.hid ho;obtain ⟨j,hjj⟩:∃ j,idx (obj h r.n).held (c,k)=j:=⟨_,rfl⟩;have hkey:=Lib.hid (idx_key hj);rw [hjj] at hj ⊢;have hkj:Hid (((obj h r.n).held[j]).1=((c:Int),(k:Int))):=by show _=_;rw [← hkey.out];congr 2;exact hjj.symm
 have hJ:Hid (at_ (obj h r.n).held (c,k)=j):=by show _=_;unfold at_;rw [hjj,if_pos hj]
 obtain ⟨g,cap,hvb,d1,d2,hg,hgne,_,o2⟩:=H.ob h0 h1;have b2:=H.c2;rw [hvb] at b2;have hro:=H.held h0 h1;obtain ⟨ha,hcap,hhv,e1,e3,_,hlt⟩:=row_form hro (by omega)
 rw [hhv] at o2 hro;have HHV:=Lib.hid hhv;obtain ⟨_,_,z2,z3⟩:=hcells_get _ j hj;replace z2:=row_cell hro z2;replace z3:=row_cell hro z3;have f2:w.frozen? ⟨ha,j*4+2,none⟩=false:=row_free hro;have f3:w.frozen? ⟨ha,j*4+3,none⟩=false:=row_free hro;have hnk:r.n.toNat < h.objs.length:=by omega
 have hrow2:(obj h r.n).held.length≤hcap:=e1;clear hkey hhv hvb hjj hro;clear H ht hvc hel hfx hfe
 go_enter Try.func159,Try.ntmps159
 go_wp2
 refine Drawn.hd (fun w'=>w'.cell? ⟨E.hb,0,none⟩=some (.slice (some ⟨cb,co,none⟩) E.f.classes.length ccap)∧w'.cell? ⟨cb,co+c*2+1,none⟩=some (.slice (some ⟨fb,fo,none⟩) x.fields.length fcap)∧w'.cell? ⟨fb,fo+k*2,none⟩=some (.int .i64 t.kind)∧w'.cell? ⟨fb,fo+k*2+1,none⟩=some (.int .i64 t.cls)∧w'.cell? ⟨w.heap.size+1,0,none⟩=some (.int .i64 v.kind)∧w'.cell? ⟨w.heap.size+1,1,none⟩=some (.int .i64 v.n)) (h:=fun hHeld=>?_);refine dT 0 11 ?_;refine dT 1 12 ?_;refine dT 2 13 ?_;refine dT 3 14 ?_;refine dT 4 15 ?_;refine dT 5 16 ?_;refine dT 6 17 ?_;refine dT 7 18 ?_;refine dT 8 19 ?_;refine dT 9 20 ?_;refine dT 10 21 ?_;refine dT 11 22 ?_;refine dT 12 23 ?_;refine dT 13 24 ?_;refine dT 14 25 ?_;refine Drawn.cl 15 (fun K hK=>?_);go_simp
 go_at_call 106
 refine (ofV (HH.out.below (by exact Rd.byB)) hm ⟨v.kind,v.n⟩ t _ hp.out hv).mono ?_
 rintro e w1 ⟨rfl,hb1⟩;have kk:∀ (b o:Nat) (u:Value),World.cell? _ ⟨b,o,none⟩=some u→w1.cell? ⟨b,o,none⟩=some u:=fun b o u hc=>kept hb1 (cell_lt hc) hc;have y0:=kk E.hb 0 (.slice (some ⟨cb,co,none⟩) E.f.classes.length ccap) (by go_simp)
 have y1:=kk cb (co+c*2+1) (.slice (some ⟨fb,fo,none⟩) x.fields.length fcap) (by go_simp)
 have y2:=kk fb (fo+k*2) (.int .i64 t.kind) (by go_simp)
 have y3:=kk fb (fo+k*2+1) (.int .i64 t.cls) (by go_simp)
 have y4:=kk (w.heap.size+1) 0 (.int .i64 v.kind) (by go_simp)
 have y5:=kk (w.heap.size+1) 1 (.int .i64 v.n) (by go_simp)
 have y6:=kk w.heap.size 0 (.int .i64 r.kind) (by go_simp)
 have y7:=kk w.heap.size 1 (.int .i64 r.n) (by go_simp)
 have HB1:=Lib.hid (show Below w.heap.size w w1 from Below.trans (by exact Rd.byB) (hb1.mono (by simp <;> omega)))
 have hz1:w.heap.size+1+1≤w1.heap.size:=by have:=hb1.size;simpa using this
 clear kk hb1
 go_wp2_with fail
 refine Drawn.bk hK (hS:=by (try dsimp only);exact ⟨y0,y1,y2,y3,y4,y5⟩) (h:=fun hHeld=>?_)
 clear hK K;refine Drawn.cl 16 (fun K hK=>?_);go_simp
 go_at_call 104
 refine (mustT (HH.out.below HB1.out) rfl).mono ?_;rintro e w2 ⟨rfl,rfl⟩
 go_wp2_with fail
 refine Drawn.bk hK (hS:=by (try dsimp only);exact ⟨y0,y1,y2,y3,y4,y5⟩) (h:=fun hHeld=>?_)
 clear hK K;refine dT 17 28 ?_;refine dN ?_
 go_wp2_with (go_at_call 199;refine (findAtV (HH.out.below HB1.out) hm ⟨r.kind,r.n⟩ c k h0 h1 ho.out h72 hJ.out).mono ?_;rintro e w2 ⟨rfl,hb2⟩;have q6:=kept hb2 (cell_lt y6) y6;have q7:=kept hb2 (cell_lt y7) y7;have q4:=kept hb2 (cell_lt y4) y4;have q5:=kept hb2 (cell_lt y5) y5;have hB2:=Lib.hid (show Below w.heap.size w w2 from HB1.out.trans (hb2.mono HB1.out.size));have q0:=kept hB2.out (cell_lt b2) b2;have q1:=kept hB2.out (cell_lt o2) o2;have q2:=kept hB2.out (cell_lt z2) z2;have q3:=kept hB2.out (cell_lt z3) z3;have g2:=(kpB (X:=fun _=>False) hB2.out).frz f2 (cell_lt z2) (fun e=>e);have g3:=(kpB (X:=fun _=>False) hB2.out).frz f3 (cell_lt z3) (fun e=>e);clear hb2)
 go_still_tail 13,(by kernel_rfl)
 go_wp2
 go_end0
 obtain ⟨A,K⟩:=RH.setHeld (HH.out.below hB2.out) h0 h1 HHV.out hj ((c:Int),(k:Int)) hkj.out v;exact ⟨rfl,A.below (by exact Rd.byB),kb ((kpB hB2.out).trans K (fun _ hy=>.inl hy)) (by exact Rd.byB)⟩
end
end Rhw
end Go.Proofs.Ytncmhenfgbcihab
