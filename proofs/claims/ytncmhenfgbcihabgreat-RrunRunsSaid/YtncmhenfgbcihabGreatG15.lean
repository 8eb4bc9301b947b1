/- Parts of the proof: Pn, Pc, Pd, Pe, Pg. -/
import Derived.Test.YtncmhenfgbcihabGreatG14
import Derived.Deep.RegionLaw
import Derived.BigRegion
import Derived.Stop.RegionWithIn
import Derived.RegionTactic
import Derived.ChangeAlike
import Derived.Test.YtncmhenfgbcihabGreatG08
set_option linter.unusedSimpArgs false
set_option linter.unusedVariables false
set_option maxHeartbeats 8000000
namespace Go.Proofs.YtncmhenfgbcihabGreat
open Go.RowKit
attribute [local go_sem] Oper.semAt_some
namespace Hpw
open Num Rd D Run Mem HierW
def more (h:Hp) (o:Ob):Hp:={ h with objs:=h.objs++[o] }
def noDefer (o:Oper):Bool:=match o.op with
 | .defer _=>false
 | _=>true
theorem wpAnyIn_unround {F:Fence}{n:Nat}{P:Program}{ops:Array Oper}{Q:Exit→Act→World→Prop}{md:Region.Mode}{l:Nat}(hro:F.round=none) (hd:ops.all noDefer=true):∀ (fuel:Nat) (listed:Array Bool) (a:Act) (w:World),wpAnyIn F n P md ops Q fuel listed a w→wpAnyIn (F.inRound l) n P md ops Q fuel listed a w:=by
 intro fuel
 induction fuel with
 | zero=>exact fun listed a w h=>h
 | succ fuel ih =>
  intro listed a w h
  refine ⟨h.1,fun i hi=>?_⟩;have h2:=wpOpIn_mono (fun a w=>ih _ a w) (h.2 i hi);unfold wpOpIn at h2 ⊢
  cases ho:ops[i]? with
  | none=>rw [ho] at h2;exact h2
  | some o =>
   rw [ho] at h2
   have hnd:∀ c,o.op≠.defer c:=fun c e=>by
    have:=Array.all_eq_true_iff_forall_mem.1 hd o (Array.mem_of_getElem? ho)
    simp [noDefer,e] at this
   simp only at h2 ⊢
   split
   ·rename_i hw
    rw [if_pos hw] at h2;refine ⟨h2.1,?_⟩;have h3:=h2.2;rw [hro,Oper.semAt_none] at h3;rw [Fence.inRound_round,Oper.semAt_some l _ _ hnd]
    revert h3
    generalize (execOp a.eval o).run P w=r
    intro h3
    cases r with
    | ok x w'=>cases x <;> exact h3
    | halt x w'=>cases x <;> exact h3
   ·rename_i hw
    rw [if_neg hw] at h2;exact h2
def ups (l:List Cls) (pre:List Int) (k:Int × Int):Option Vl :=
 if k.1∈pre∧0≤k.2∧k.2 < (Hier.at' l k.1.toNat).fields.length then some (Run.zero ((Hier.at' l k.1.toNat).fields.getD k.2.toNat ⟨0,0⟩)) else none
structure NewI (E:Ev) (w W:World) (cl:Int) (F:Int × Int→Option Vl):Prop where
 below:Below w.heap.size w W
 t2:W.cell? ⟨w.heap.size,0,none⟩=some (.pointer (some ⟨E.hb,0,none⟩))
 r0:W.cell? ⟨w.heap.size+1,0,none⟩=some (.int .i64 0)
 r1:W.cell? ⟨w.heap.size+1,1,none⟩=some (.int .i64 0)
 f0:W.frozen? ⟨w.heap.size+1,0,none⟩=false
 f1:W.frozen? ⟨w.heap.size+1,1,none⟩=false
 o0:W.cell? ⟨w.heap.size+1+1+1,0,none⟩=some (.int .i64 cl)
 o1:W.cell? ⟨w.heap.size+1+1+1,1,none⟩=some (.map (some (w.heap.size+1+1)))
 lo:w.heap.size+1+1+1+1+1+1≤W.heap.size
 mp:∃ es c pm,W.heap[w.heap.size+1+1]? = some (.map es c)∧es.toList.map (fun e=>(e.key,e.val))=pm.map (fun x=>(keyV x.1,vval x.2))∧∀ k,look pm k=F k
structure NK (w:World) (A B:World):Prop where
 lo:w.heap.size+1+1+1+1+1+1≤A.heap.size
 kp:Mem.Kp (fun k=>k=w.heap.size+1+1∨w.heap.size+1+1+1+1+1+1≤k) A B
theorem NK.trans {w A B C:World}(h:NK w A B) (k:NK w B C):NK w A C:=⟨h.lo,h.kp.trans k.kp (fun _ hy=>.inl hy)⟩
theorem NewI.next {E:Ev}{w W W':World}{cl:Int}{F:Int × Int→Option Vl}(H:NewI E w W cl F) (K:Mem.Kp (fun k=>w.heap.size+1+1+1+1≤k) W W'):NewI E w W' cl F:=by
 obtain ⟨es,c,pm,m1,m2,m3⟩:=H.mp;have hlt:w.heap.size+1+1+1 < W.heap.size:=cell_lt H.o0;refine ⟨H.below.trans (K.below (by have:=H.below.size;omega) (fun x hx=>by omega)),K.cell H.t2 (by omega),K.cell H.r0 (by omega),K.cell H.r1 (by omega),K.frz H.f0 (by omega) (by omega),K.frz H.f1 (by omega) (by omega),K.cell H.o0 (by omega),K.cell H.o1 (by omega),Nat.le_trans H.lo K.size,es,c,pm,?_,m2,m3⟩
 rw [K.block _ (by omega) (by omega)];exact m1
theorem newI_own (E:Ev) (w:World) (cl:Int) (F:List Int→Int × Int→Option Vl){B:Nat}(hB:w.heap.size+1+1+1+1≤B):OwnFrom B (fun pre W=>NewI E w W cl (F pre)):=fun s A A' row hs hg hr =>
 hs.next ⟨hg.os,hg.tape,hg.output,hg.size,fun k hk hn=>hg.block k hk (fun e=>by obtain ⟨h1,_⟩:=hr k e.symm;omega)⟩
theorem NewI.put {E:Ev}{w W W':World}{cl:Int}{F F':Int × Int→Option Vl}(H:NewI E w W cl F) (es':Array MapEntry) (c':Nat) (pm':List ((Int × Int) × Vl)) (hW:W'=W.putObj (w.heap.size+1+1) (.map es' c'))
  (h1:es'.toList.map (fun e=>(e.key,e.val))=pm'.map (fun x=>(keyV x.1,vval x.2))) (h2:∀ k,look pm' k=F' k):NewI E w W' cl F':=by
 subst hW;have hlt:w.heap.size+1+1+1 < W.heap.size:=cell_lt H.o0
 have K:Mem.Kp (fun k=>k=w.heap.size+1+1) W (W.putObj (w.heap.size+1+1) (.map es' c')) :=
  ⟨rfl,rfl,rfl,by simp [World.putObj],fun k hk hn=>World.putObj_heap_other (fun e=>hn e)⟩
 exact ⟨H.below.trans (K.below (by have:=H.below.size;omega) (fun x hx=>by omega)),K.cell H.t2 (by omega),K.cell H.r0 (by omega),K.cell H.r1 (by omega),K.frz H.f0 (by omega) (by omega),K.frz H.f1 (by omega) (by omega),K.cell H.o0 (by omega),K.cell H.o1 (by omega),Nat.le_trans H.lo K.size,es',c',pm',World.putObj_heap_same (by omega),h1,h2⟩
def ups1 (l:List Cls) (pre:List Int) (x:Int) (j:Nat) (k:Int × Int):Option Vl :=
 if k.1=x∧0≤k.2∧k.2 < j then some (Run.zero ((Hier.at' l x.toNat).fields.getD k.2.toNat ⟨0,0⟩)) else ups l pre k
theorem ups1_zero (l:List Cls) (pre:List Int) (x:Int) (k:Int × Int):ups1 l pre x 0 k=ups l pre k:=by
 unfold ups1;rw [if_neg (by omega)]
theorem ups1_all (l:List Cls) (pre:List Int) (x:Int) (k:Int × Int):ups1 l pre x (Hier.at' l x.toNat).fields.length k=ups l (pre++[x]) k:=by
 unfold ups1 ups
 by_cases e:k.1=x
 ·subst e
  by_cases q:0≤k.2∧k.2 < (Hier.at' l k.1.toNat).fields.length
  ·rw [if_pos ⟨rfl,q.1,q.2⟩,if_pos ⟨by simp,q.1,q.2⟩]
  ·rw [if_neg (fun h=>q h.2),if_neg (fun h=>q h.2),if_neg (fun h=>q h.2)]
 ·rw [if_neg (fun h=>e h.1)];simp [e]
theorem ups1_step (l:List Cls) (pre:List Int) (x:Int) (j:Nat) (k:Int × Int):(if k=(x,(j:Int)) then some (Run.zero ((Hier.at' l x.toNat).fields.getD j ⟨0,0⟩)) else ups1 l pre x j k)=ups1 l pre x (j+1) k:=by
 unfold ups1;obtain ⟨a,b⟩:=k
 by_cases e:a=x
 ·subst e
  by_cases q:b=j
  ·subst q;rw [if_pos rfl,if_pos ⟨rfl,by omega,by omega⟩];rfl
  ·have q':b≠j:=q;rw [if_neg (by simpa using q)]
   by_cases q2:0≤b∧b < j
   ·rw [if_pos ⟨rfl,q2.1,q2.2⟩,if_pos ⟨rfl,q2.1,by push_cast;omega⟩]
   ·rw [if_neg (fun h=>q2 h.2),if_neg (fun h=>q2 ⟨h.2.1,by have h3:=h.2.2;omega⟩)]
 ·rw [if_neg (fun h=>e (by simpa using congrArg Prod.fst h)),if_neg (fun h=>e h.1),if_neg (fun h=>e h.1)]
theorem ocells_snoc:∀ (os:List Ob) (bs:List Nat) (o:Ob) (b:Nat),bs.length=os.length→ocells (os++[o]) (bs++[b])=ocells os bs++ocell o b:=by
 intro os
 induction os with
 | nil=>intro bs o b h;cases bs with
  | nil=>simp [ocells]
  | cons x bs=>simp at h
 | cons x os ih=>intro bs o b h;cases bs with
  | nil=>simp at h
  | cons y bs=>simp only [List.cons_append,ocells,ih bs o b (by simpa using h),List.append_assoc]
theorem row_nomap {w:World}{base:Nat}{T:TypeId}{size n k:Nat}{v:Value}{xs:List Value}{es:Array MapEntry}{c:Nat}(h:w.ownsRow base T size v n xs) (hk:v.ownBlock=some k) (hm:w.heap[k]? = some (.map es c)):False:=by
 rcases h.2 with ⟨hv,_⟩ | ⟨g,cap,cur,rfl,_,hg,_⟩
 ·subst hv;simp [Value.ownBlock] at hk
 ·simp only [Value.ownBlock,Option.some.injEq] at hk;subst hk;rw [hg] at hm;simp at hm
theorem news_of {W:World}{l:List Value}{T:TypeId}{b:Nat}(hb:b=W.heap.size):∀ j u,l[j]? = some u→(W.alloc (.cells l.toArray T)).cell? ((⟨b,0,none⟩:Addr).add j)=some u:=fun j u hj=>by
 subst hb;have hadd:(⟨W.heap.size,0,none⟩:Addr).add j=⟨W.heap.size,j,none⟩:=by unfold Addr.add;split <;> simp_all
 rw [hadd,World.cell?_alloc_new]
 simpa using hj
theorem info_obj:(Tryz.prog.info? 93).map (fun i=>(i.zero,i.size,i.bytes))=some (some (.agg #[.int .i64 0,.map none]),2,16):=by kernel_rfl
def Lmore (L:Lay) (g n cap m:Nat):Lay:=⟨L.vo,.slice (some ⟨g,0,none⟩) n cap,L.mbs++[m]⟩
theorem own_more {E:Ev}{L:Lay}{g n cap m k:Nat}(h:own E (Lmore L g n cap m) k):own E L k∨k=g∨k=m:=by
 rcases h with e | e | e | e
 ·exact .inl (.inl e)
 ·exact .inl (.inr (.inl e))
 ·exact .inr (.inl (by simpa [Lmore,Value.ownBlock,eq_comm] using e))
 ·rcases List.mem_append.1 e with e | e
  ·exact .inl (.inr (.inr (.inr e)))
  ·exact .inr (.inr (by simpa using e))
theorem grow_obj {E:Ev}{w W w2:World}{L:Lay}{h:Hp}{d:Nat}(H:PH E w L h d) (hW:Below w.heap.size w W){o:Ob}{g cap m c:Nat}{es:Array MapEntry}(hm0:w.heap.size≤m) (hm1:W.heap[m]? = some (.map es c)) (hm2:MapIs es o.held)
  (ho:w2.ownsRow E.B 93 2 (.slice (some ⟨g,0,none⟩) (h.objs.length+1) cap) (h.objs.length+1) (ocells h.objs L.mbs++ocell o m)) (hg:W.grownBy w2 L.vb.ownBlock) (hat:L.vb.ownBlock=some g∨g=W.heap.size) :
  PH E (w2.setCell ⟨E.hb,8,none⟩ (.slice (some ⟨g,0,none⟩) (h.objs.length+1) cap)) (Lmore L g (h.objs.length+1) cap m) (more h o) d∧Kp (own E L) w (w2.setCell ⟨E.hb,8,none⟩ (.slice (some ⟨g,0,none⟩) (h.objs.length+1) cap)):=by
 have HW:=H.below hW;have hsz:=hW.size;have hmW:m < W.heap.size:=(Array.getElem?_eq_some_iff.1 hm1).1;obtain ⟨n1,n2,n3⟩:=hb_no H;have hvb:∀ k,L.vb.ownBlock=some k→own E L k:=fun k e=>.inr (.inr (.inl e));have hK:Kp (fun k=>L.vb.ownBlock=some k) W w2:=Kp.of_grown hg (fun k e=>e)
 have apart:∀ k,(L.vb.ownBlock=some k)→k≠E.hb∧L.vo.ownBlock≠some k∧k∉L.mbs:=by
  intro k e
  refine ⟨fun q=>n2 (q ▸ e),fun q=>H.apart.2.2 k q e,fun hm=>?_⟩;obtain ⟨i,hi,e2⟩:=List.getElem_of_mem hm;obtain ⟨es,c,h1,_⟩:=H.maps i hi;rw [e2] at h1;exact row_nomap H.objs e h1
 have gap:g≠E.hb∧L.vo.ownBlock≠some g∧g∉L.mbs:=by
  rcases hat with e | e
  ·exact apart g e
  ·refine ⟨by have:=H.hbw;omega,fun q=>?_,fun q=>?_⟩
   ·have:=(own_lo H (.inr (.inl q))).2;omega
   ·have:=(own_lo H (.inr (.inr (.inr q)))).2;omega
 have mapart:L.vb.ownBlock≠some m:=fun e=>by have:=(own_lo H (hvb m e)).2;omega
 have hcell:Kp (fun k=>k=E.hb) w2 (w2.setCell ⟨E.hb,8,none⟩ (.slice (some ⟨g,0,none⟩) (h.objs.length+1) cap)):=Kp.setCell (Kp.refl (fun k=>k=E.hb) w2) (p:=⟨E.hb,8,none⟩) (.inl rfl) _
 have hKK:Kp (own E L) w (w2.setCell ⟨E.hb,8,none⟩ (.slice (some ⟨g,0,none⟩) (h.objs.length+1) cap)) :=
  ((kpB hW:Kp (own E L) w W).trans hK (fun y hy=>.inl (hvb y hy))).trans hcell (fun y hy=>.inl (.inl hy))
 have hb0:E.B≤w.heap.size:=by have:=H.base;omega
 have hlo:∀ k,own E L k→E.B≤k:=fun k hk=>(own_lo H hk).1
 have hap3:∀ k,(Lmore L g (h.objs.length+1) cap m).vo.ownBlock=some k→(Lmore L g (h.objs.length+1) cap m).vb.ownBlock≠some k:=fun k e q=>by
  have:k=g:=by simpa [Lmore,Value.ownBlock,eq_comm] using q
  subst this;exact gap.2.1 e
 refine ⟨⟨?_,hKK.sl mCls H.cls hb0 hlo,hKK.sl mMe H.mes hb0 hlo,hKK.sl mInt H.inp hb0 hlo,?_,?_,?_,fun i hi=>?_,⟨H.base.1,Nat.lt_of_lt_of_le H.base.2.1 hKK.size,fun b hb=>?_⟩,⟨n1,fun e=>gap.1 (by simpa [Lmore,Value.ownBlock] using e),hap3⟩,?_⟩,hKK⟩
 ·have c1:Blk w2 E.hb (cellsP E L h d):=HW.cells.next hK (fun e=>(apart _ e).1 rfl);exact c1.set 8 (by simp [cellsP]) _
 ·exact row_keep (row_keep HW.out hK (fun k e e'=>(apart k e').2.1 e)) hcell (fun k e e'=>by subst e';exact n1 e)
 ·show World.ownsRow _ _ _ _ _ _ _
  unfold more Lmore;simp only [List.length_append,List.length_cons,List.length_nil];rw [ocells_snoc _ _ _ _ H.many];exact ownsRow_setCell_other ho (by simp [Value.ownBlock];exact gap.1) _
 ·unfold more Lmore;simp [H.many]
 ·have hmany:=H.many;have hi':i < L.mbs.length+1:=by simpa [Lmore] using hi
  by_cases q:i < L.mbs.length
  ·obtain ⟨es',c',g1,g2⟩:=HW.maps i q;have hlt:=(Array.getElem?_eq_some_iff.1 g1).1;have e1:(Lmore L g (h.objs.length+1) cap m).mbs[i]=L.mbs[i]:=List.getElem_append_left q
   have e2:(more h o).objs.getD i nilOb=h.objs.getD i nilOb:=by
    unfold more;rw [List.getD_eq_getElem?_getD,List.getD_eq_getElem?_getD,List.getElem?_append_left (by omega)]
   rw [e1,e2];refine ⟨es',c',?_,g2⟩;rw [hcell.block _ (Nat.lt_of_lt_of_le hlt hK.size) (fun e=>n3 (e ▸ List.getElem_mem q)),hK.block _ hlt (fun e=>(apart _ e).2.2 (List.getElem_mem q))];exact g1
  ·obtain rfl:i=L.mbs.length:=by omega
   have e1:(Lmore L g (h.objs.length+1) cap m).mbs[L.mbs.length]=m:=by simp [Lmore]
   have e2:(more h o).objs.getD L.mbs.length nilOb=o:=by
    unfold more;rw [hmany,List.getD_eq_getElem?_getD,List.getElem?_append_right (by omega)];simp
   rw [e1,e2];refine ⟨es,c,?_,hm2⟩;rw [hcell.block _ (Nat.lt_of_lt_of_le hmW hK.size) (fun e=>by have:=H.hbw;omega),hK.block _ hmW mapart]
   exact hm1
 ·rcases List.mem_append.1 hb with e | e
  ·exact H.base.2.2 b e
  ·have:b=m:=by simpa using e
   subst this;omega
 ·show (L.mbs++[m]).Nodup
  rw [List.nodup_append];refine ⟨H.nodup,by simp,fun a ha b hb e=>?_⟩
  have:b=m:=by simpa using hb
  subst this;subst e
  have:=(own_lo H (.inr (.inr (.inr ha)))).2
  omega
theorem obj_mid {E:Ev}{w W w2:World}{L:Lay}{h:Hp}{d:Nat}(H:PH E w L h d) (hW:Below w.heap.size w W) (hg:W.grownBy w2 L.vb.ownBlock):Blk w2 E.hb (cellsP E L h d) :=
 (H.below hW).cells.next (Kp.of_grown (X:=fun k=>L.vb.ownBlock=some k) hg (fun k e=>e)) (fun e=>(hb_no H).2.1 e)
theorem new_end {E:Ev}{w w4 W:World}{L:Lay}{h h2:Hp}{d g n cap m D:Nat}(HH:PH E w L h d) (HA:PH E w4 (Lmore L g n cap m) h2 d∧Kp (own E L) w w4) (hat:L.vb.ownBlock=some g∨W.heap.size≤g) (hm:m=w.heap.size+1+1) (hW:w.heap.size+1+1+1 < W.heap.size) (hD:w.heap.size+1+1+1 < D) (hDW:D < W.heap.size) (x y:Value) (o:Obj) :
  Lft E L d w (((w4.setCell ⟨w.heap.size+1,0,none⟩ x).setCell ⟨w.heap.size+1,1,none⟩ y).putObj D o) h2:=by
 obtain ⟨H4,K4⟩:=HA;have hEB:E.B≤w.heap.size:=by have:=HH.base;omega
 have no:∀ b,w.heap.size≤b→b < W.heap.size→b≠m→¬ own E (Lmore L g n cap m) b:=fun b h1 h2 h3 hk=>by
  rcases own_more hk with e | e | e
  ·have:=(own_lo HH e).2;omega
  ·subst e
   rcases hat with e | e
   ·have:=(own_lo HH (.inr (.inr (.inl e)))).2;omega
   ·omega
  ·exact h3 e
 have nr:=no (w.heap.size+1) (by omega) (by omega) (by omega)
 have nD:=no D (by omega) hDW (by omega)
 have H5:=(H4.res (b:=w.heap.size+1) (by omega) nr 0 x).res (b:=w.heap.size+1) (by omega) nr 1 y
 have KD:Kp (fun k=>k=D) ((w4.setCell ⟨w.heap.size+1,0,none⟩ x).setCell ⟨w.heap.size+1,1,none⟩ y) (((w4.setCell ⟨w.heap.size+1,0,none⟩ x).setCell ⟨w.heap.size+1,1,none⟩ y).putObj D o):=⟨rfl,rfl,rfl,by simp [World.putObj],fun k hk hn=>World.putObj_heap_other (fun e=>hn e)⟩
 refine ⟨Lmore L g n cap m,(((K4.setCell (p:=⟨w.heap.size+1,0,none⟩) (.inr (by simp)) x).setCell (p:=⟨w.heap.size+1,1,none⟩) (.inr (by simp)) y).trans KD (fun k e=>.inr (by omega))),fun k hk=>?_,H5.keep KD (fun k e=>by subst e;exact ⟨by omega,nD⟩)⟩
 rcases own_more hk with e | e | e
 ·exact .inl e
 ·subst e
  rcases hat with e | e
  ·exact .inl (.inr (.inr (.inl e)))
  ·exact .inr (by omega)
 ·exact .inr (by omega)
section
variable {E:Ev}{w w':World}{L L':Lay}{h h':Hp}{d:Nat}
set_option maxRecDepth 100000 in
theorem newFull (H:PH E w L h d) (cl:Int) (q:100≤h.objs.length) :
  Calls Tryz.prog 163 #[.pointer (some ⟨E.hb,0,none⟩),.int .i64 cl] w fun e w'=>e=pan (stopV 4)∧Below w.heap.size w w':=by
 have hhb:=H.hbw;have c8:=H.c8;obtain ⟨g,cap,hv,g1,g2,g3,g4⟩:=row_form H.objs (by omega)
 rw [hv] at c8;clear H
 go_enter Tryz.func163,Tryz.ntmps163
 go_wp2
 refine And.intro rfl ?_;exact ⟨rfl,by exact Rd.byB⟩
set_option maxRecDepth 100000 in
theorem newOk (H:PH E w L h d) (hm:Hier.may E.f.classes=true) (cl:Int) (q:h.objs.length < 100) :
  Calls Tryz.prog 163 #[.pointer (some ⟨E.hb,0,none⟩),.int .i64 cl] w fun e w'=>e=.returned (.agg #[.int .i64 3,.int .i64 h.objs.length])∧Lft E L d w w' (more h ⟨cl,fresh E.f.classes cl⟩):=by
 have hhb:=H.hbw;have HH:=Lib.hid H;have c8:=H.c8;have c0:=H.c0;obtain ⟨ba,bcap,hvb⟩:=row_any H.objs;rw [hvb] at c8;obtain ⟨ca,ccap,hvc,_,_,hel⟩:=id H.cls;rw [hvc] at c0;clear H hel;have hmk:∀ w,(Instr.makeMap 91 none).run Tryz.prog w=.ok (.map (some w.heap.size)) (w.alloc (.map #[] 0)):=fun _=>by kernel_rfl
 refine (callsIn_wide (n:=4)).1 ?_;have hb1:E.hb < w.heap.size+1:=by omega
 have hb2:E.hb < w.heap.size+1+1:=by omega
 have hb3:E.hb < w.heap.size+1+1+1:=by omega
 refine callsIn_of_wp_marks Tryz.func163 rfl trivial ?_ rfl;simp only [Tryz.ntmps163,List.size_toArray,List.length_cons,List.length_nil,Nat.reduceAdd,Nat.reduceSub,Array.replicate_succ,Array.replicate_zero,List.push_toArray,List.append_toArray,List.nil_append,List.cons_append]
 gi_wp2_with (refine ⟨trivial,?_⟩;gi_at_call 193;refine (UpW.up_in Fence.wide 3 trivial rfl _ _ _ _ _).mono ?_;rintro e w' ⟨rfl,rfl⟩)
 have hcs:=HH.out.cls;have hwf:=Lib.hid (Hier.wf_of_may hm);have hBw:E.B≤w.heap.size:=by have:=HH.out.base;omega
 have cA:=UpW.cell_new w (.pointer (some ⟨E.hb,0,none⟩)) 40
 generalize hW6:World.alloc (World.alloc (World.alloc (World.alloc (World.alloc (World.alloc _ _) _) _) _) _) _=W6
 replace hW6:=Lib.hid hW6
 have hNI:Hid (NewI E w W6 cl (ups E.f.classes [])):=by
  show NewI _ _ _ _ _
  rw [← hW6.out];refine ⟨Rd.byB,by go_simp,by go_simp,by go_simp,by go_simp,by go_simp,by go_simp,by go_simp,by simp,#[],0,[],?_,rfl,fun k=>?_⟩
  ·rw [Below.heap_alloc _ _ _ (by simp),Below.heap_alloc _ _ _ (by simp),Below.heap_alloc _ _ _ (by simp)]
   have:=World.alloc_heap_new ((w.alloc (.cells #[.pointer (some ⟨E.hb,0,none⟩)] 40)).alloc (.cells #[.int .i64 0,.int .i64 0] 46)) (.map #[] 0)
   simpa using this
  ·unfold look ups;simp
 have hs6:W6.heap.size=w.heap.size+1+1+1+1+1+1:=by rw [← hW6.out];simp
 have k5:W6.cell? ⟨w.heap.size+1+1+1+1+1,0,none⟩=some (.int .i64 cl)∧W6.frozen? ⟨w.heap.size+1+1+1+1+1,0,none⟩=false:=by rw [← hW6.out];exact ⟨by go_simp,by go_simp⟩
 have k4:W6.cell? ⟨w.heap.size+1+1+1+1,0,none⟩=some (.slice ca E.f.classes.length ccap):=by rw [← hW6.out];go_simp
 have hC6:Sl 2 ECls W6 w.heap.size (.slice ca E.f.classes.length ccap) E.f.classes:=by rw [← hvc];exact hcs.mono mCls (hNI.out.below.mono hBw) hBw
 refine UpW.rangeG rfl (by omega) (gf:=205) (lb:=#[.pointer (some ⟨w.heap.size+1+1+1+1+1,0,none⟩),.pointer (some ⟨w.heap.size+1+1+1+1,0,none⟩)]) rfl trivial (enters_of Tryz.func205 (by kernel_rfl) rfl)
  (UpW.up1G_gives Fence.wide 3 trivial rfl (by omega) w.heap.size (w.heap.size+1+1+1+1+1) (w.heap.size+1+1+1+1) (NK w) (fun hk=>hk.kp.below (by have:=hk.lo;omega) (fun x hx=>by omega)) (fun hk=>hk.kp.block _ (by have:=hk.lo;omega) (by omega)) (fun hk=>hk.kp.block _ (by have:=hk.lo;omega) (by omega)) _ E.f.classes cl _ k5.1 k5.2 k4 hC6 hwf.out (by omega) (by omega) (by omega))
  NK.trans ⟨by omega,Mem.Kp.refl _ _⟩ (fun W o hW=>⟨hW.lo,hW.kp.alloc o⟩) (fun W l o o' hl ho _ _=>⟨by have:=(Array.getElem?_eq_some_iff.1 ho).1;omega,rfl,rfl,rfl,by simp [World.putObj],fun k hk hn=>World.putObj_heap_other (fun e=>hn (.inr (by omega)))⟩) (fun _=>rfl)
  (fun pre W=>NewI E w W cl (ups E.f.classes pre)) (fun _ _ _=>False)
  (newI_own E w cl (ups E.f.classes) (by omega)) (fun _ _ _ _ _ h=>h.elim)
  (fun s W u hs=>hs.next (Kp.setCell (Kp.refl _ W) (p:=⟨w.heap.size+1+1+1+1+1,0,none⟩) (.inl (by simp)) u)) (fun _ _ _ _ h=>h.elim)
  hNI.out
  (fun x=>{ tmps:=#[.pointer (some ⟨E.hb,0,none⟩),.int .i64 cl,.pointer (some ⟨w.heap.size,0,none⟩),undef,.pointer (some ⟨w.heap.size+1,0,none⟩),.pointer (some ⟨w.heap.size+1+1+1,0,none⟩),.int .i64 x,undef,undef,
   .pointer (some ⟨E.hb,0,none⟩),.pointer (some ⟨E.hb,0,none⟩),.pointer (some ⟨E.hb,8,none⟩),.slice ba h.objs.length bcap,.int .i64 h.objs.length,.bool (decide ((100:Int)≤h.objs.length)),undef,undef,.int .i64 cl,.map (some (w.heap.size+1+1)),
   .agg #[.int .i64 cl,.map (some (w.heap.size+1+1))],.pointer (some ⟨E.hb,0,none⟩),.pointer (some ⟨E.hb,0,none⟩),.pointer (some ⟨E.hb,0,none⟩),.pointer (some ⟨E.hb,0,none⟩),.slice ca E.f.classes.length ccap,.int .i64 cl,
   .func (.func 205) #[] #[.pointer (some ⟨w.heap.size+1+1+1+1+1,0,none⟩),.pointer (some ⟨w.heap.size+1+1+1+1,0,none⟩)],.int .i64 x,
   undef,undef,undef,undef,undef,undef,undef,undef,undef,undef,undef,undef,undef,undef,undef,undef,undef,undef,undef,undef,undef,undef,undef,undef,undef,undef,undef,undef,undef,undef,undef,undef,undef,undef,undef,undef,undef,undef,undef,undef],defers:=[] }) ?assign ?body ?done ?stop
 case assign =>
  intro L x W K hK
  gi_wp2
  exact hK
 case body =>
  rename_i l1 l2 Q1 q1 K1 a1
  clear a1 K1 Q1;rintro L0 pre x W HN hpre;have hxu:x∈Hier.up E.f.classes cl:=hpre.subset (by simp)
  have hx0:0≤x∧x < E.f.classes.length:=by
   have h1:Hier.is E.f.classes cl x=true:=by unfold Hier.is;simpa using hxu
   have h2:=Hier.is_le' hwf.out h1;have h3:=Hier.is_lt h1;omega
  obtain ⟨n,rfl⟩:=Int.eq_ofNat_of_zero_le hx0.1;have hn:n < E.f.classes.length:=by omega
  obtain ⟨ca',ccap',hv',i1,i2,hel⟩:=hcs.mono mCls (HN.below.mono hBw) hBw;rw [hvc] at hv';simp only [Value.slice.injEq,true_and] at hv';obtain ⟨rfl,rfl⟩:=hv';obtain ⟨cb,co,rfl,hcb,hcE⟩:=hel n hn;obtain ⟨cx,hcx⟩:=at_of hn;have hat:Hid (Hier.at' E.f.classes n=cx):=by show _=_;rw [Hier.at_eq hn,hcx.out]
  rw [hcx.out] at hcE;obtain ⟨_,_,vf,hc1,hsf⟩:=hcE;obtain ⟨fa,fcap,rfl,f1,f2,hfe⟩:=hsf;have c0W:=kept HN.below hhb c0;have t2:=HN.t2;have hNW:=Lib.hid HN;clear hel
  gi_wp2
  gi_loopw [38] (fun i wr=>∃ j:Nat,i=.int .i64 j∧j≤cx.fields.length∧NK w W wr∧KeepsFrom W6.heap.size W wr∧Hid (NewI E w wr cl (ups1 E.f.classes pre n j))) (fun i _=>cx.fields.length - (intOf i).toNat)
  case atStart =>
   refine ⟨0,rfl,Nat.zero_le _,⟨hNW.out.lo,Mem.Kp.refl _ _⟩,KeepsFrom.refl _ _,?_⟩
   show NewI _ _ _ _ _
   rw [show ups1 E.f.classes pre n 0=ups E.f.classes pre from funext fun k=>ups1_zero _ _ _ k];exact hNW.out
  case round =>
   obtain ⟨j,rfl,hj,hK,hKF,hNI2⟩:=hrel
   by_cases hlt:j < cx.fields.length
   ·obtain ⟨fb,fo,rfl,hfb,he⟩:=hfe j hlt;obtain ⟨tx,htx⟩:=at_of hlt;rw [htx.out] at he;have hBel:Below w.heap.size W wr:=hK.kp.below (by have:=hK.lo;omega) (fun x hx=>by omega)
    have he1:=kept hBel hfb he.1;have he2:=kept hBel hfb he.2.1;obtain ⟨es,c,pm,m1,m2,m3⟩:=hNI2.out.mp;obtain ⟨es',c',pm',u1,u2,u3⟩:=upd_run (w.heap.size+1+1) c m2 ((n:Int),(j:Int)) (Run.zero tx);have o1:=hNI2.out.o1;have hzc:Hid (∀ W':World,CallsIn (Fence.wide.inRound L0) 1 Tryz.prog 195 #[.agg #[.int .i64 tx.kind,.int .i64 tx.cls]] W' fun e w'=>e=.returned (vval (Run.zero tx))∧Below W'.heap.size W' w'):=fun W'=>CallsIn.inRound L0 (callsIn_wide.2 (zero tx W'));have hlo:=hNI2.out.lo;have hsz:w.heap.size+1+1+1 < wr.heap.size:=by omega
    have hm1:∀ w1:World,Below (wr.heap.size+1) (wr.alloc (.cells #[.int .i64 tx.kind,.int .i64 tx.cls] 50)) w1→w1.heap[w.heap.size+1+1]? = some (.map es c)∧w1.cell? ⟨w.heap.size+1+1+1,1,none⟩=some (.map (some (w.heap.size+1+1))):=fun w1 hb=>by
     refine ⟨?_,kept hb (by omega) (by go_simp)⟩
     rw [hb.block _ (by omega),Below.heap_alloc _ _ _ (by omega)]
     exact m1
    replace hm1:=Lib.hid hm1;have u1':Hid (∀ w2:World,w2.heap[w.heap.size+1+1]? = some (.map es c)→(Instr.mapUpdate 91 (.map (some (w.heap.size+1+1))) (.agg #[.int .i64 n,.int .i64 j]) (vval (Run.zero tx))).run Tryz.prog w2=.ok () (w2.putObj (w.heap.size+1+1) (.map es' c'))):=u1;clear u1;obtain ⟨zv,hzv⟩:∃ zv,Hid (vval (Run.zero tx)=zv):=⟨_,Lib.hid rfl⟩;rw [hzv.out] at u1' hzc;have HB:=Lib.hid (show Below (wr.heap.size+1) (wr.alloc (.cells #[.int .i64 tx.kind,.int .i64 tx.cls] 50)) (wr.alloc (.cells #[.int .i64 tx.kind,.int .i64 tx.cls] 50)).drew from Rd.byB)
    have hfin:Hid (∀ w1:World,Below (wr.heap.size+1) (wr.alloc (.cells #[.int .i64 tx.kind,.int .i64 tx.cls] 50)) w1→NK w W (w1.putObj (w.heap.size+1+1) (.map es' c'))∧KeepsFrom W6.heap.size W (w1.putObj (w.heap.size+1+1) (.map es' c'))∧Hid (NewI E w (w1.putObj (w.heap.size+1+1) (.map es' c')) cl (ups1 E.f.classes pre n (j+1)))):=by
     show ∀ w1:World,_
     intro w1 hb
     have hb0:Below wr.heap.size wr w1:=Below.trans (by exact Rd.byB) (hb.mono (by omega))
     have hKw:Mem.Kp (fun k=>w.heap.size+1+1+1+1≤k) wr w1:=Mem.Kp.of_below hb0 (Nat.le_refl _);have hKp:Mem.Kp (fun k=>k=w.heap.size+1+1∨w.heap.size+1+1+1+1+1+1≤k) w1 (w1.putObj (w.heap.size+1+1) (.map es' c')):=⟨rfl,rfl,rfl,by simp [World.putObj],fun k hk hn=>World.putObj_heap_other (fun e=>hn (.inl e))⟩
     refine ⟨hK.trans ⟨hlo,(Mem.Kp.of_below hb0 (Nat.le_refl _)).trans hKp (fun _ h=>.inl h)⟩,hKF.trans (((UpW.keeps_below hb0).from _).trans (KeepsFrom.of_grownBy (grownBy_putObj' _ _ _) (fun r e=>by cases e;omega))),?_⟩
     refine NewI.put (hNI2.out.next hKw) es' c' pm' rfl u2 (fun k=>?_);rw [u3,m3,← ups1_step]
     have htx2:(Hier.at' E.f.classes (n:Int).toNat).fields.getD j ⟨0,0⟩=tx:=by
      rw [Int.toNat_natCast,hat.out,List.getD_eq_getElem?_getD,List.getElem?_eq_getElem hlt,htx.out];rfl
     rw [htx2]
    clear hfe hBel m1 u2 u3 m2 m3
    gi_wp2
    refine wpIn_region_any (by kernel_rfl) (wpAnyIn_unround rfl (by kernel_rfl) _ _ _ _ ?_)
    change wpAnyIn _ _ _ _ _ _ _ _ _ (World.drew _)
    refine wpAnyIn_take (i:=0) (v:=?v0) rfl rfl (by kernel_rfl) (by kernel_rfl) (by kernel_rfl) (fun _ _ _ h=>h) ⟨Or.inl ⟨by rfl,?h0⟩,fun _=>rfl⟩ ?r0
    case h0=>(intro w0;go_simp;all_goals with_reducible rfl)
    refine wpAnyIn_take (i:=2) (v:=?v2) rfl rfl (by kernel_rfl) (by kernel_rfl) (by kernel_rfl) (fun _ _ _ h=>h) ⟨Or.inl ⟨by rfl,?h2⟩,fun _=>rfl⟩ ?r2
    case h2=>(intro w0;go_simp;all_goals with_reducible rfl)
    refine wpAnyIn_take (i:=3) (v:=?v3) rfl rfl (by kernel_rfl) (by kernel_rfl) (by kernel_rfl) (fun _ _ _ h=>h) ⟨Or.inl ⟨by rfl,?h3⟩,fun _=>rfl⟩ ?r3
    case h3=>(intro w0;go_simp;all_goals with_reducible rfl)
    refine wpAnyIn_take (i:=4) (v:=?v4) rfl rfl (by kernel_rfl) (by kernel_rfl) (by kernel_rfl) (fun _ _ _ h=>h) ⟨Or.inl ⟨by rfl,?h4⟩,fun _=>rfl⟩ ?r4
    case h4=>(intro w0;go_simp;all_goals with_reducible rfl)
    refine wpAnyIn_ready (rs:=[1,5]) (by kernel_rfl) (by simp) ?_
    refine AllReadyIn.cons rfl (fun K hK=>?_) (AllReadyIn.cons rfl (fun K hK=>?_) AllReadyIn.nil)
    ·go_simp;refine hK _ _ ?_;clear hK K;refine wpAnyIn_ready (rs:=[5]) (by kernel_rfl) (by simp) ?_
     refine AllReadyIn.cons rfl (fun K hK=>?_) AllReadyIn.nil;go_simp;refine hK _ _ ?_;clear hK K;refine wpAnyIn_ready (rs:=[6]) (by kernel_rfl) (by simp) ?_
     refine AllReadyIn.cons rfl (fun K hK=>?_) AllReadyIn.nil
     (go_simp;refine ⟨trivial,?_⟩;gi_at_call 195;refine (hzc.out _).mono ?_;rintro e w1 ⟨rfl,hb1⟩;have hb2:=HB.out.trans (hb1.mono (by simp));obtain ⟨g1,g2⟩:=hm1.out _ hb2;have hu:=u1'.out _ g1;replace hb2:=Lib.hid hb2;replace g1:=Lib.hid g1;clear hb1)
     refine hK _ _ ?_;clear hK K;refine wpAnyIn_ready (rs:=[7]) (by kernel_rfl) (by simp) ?_
     refine AllReadyIn.cons rfl (fun K hK=>?_) AllReadyIn.nil;go_simp;refine hK _ _ ?_;clear hK K;refine wpAnyIn_done (by kernel_rfl) ?_ _
     gi_wp2
     go_roundw
     case rel=>exact ⟨j+1,by go_num,by omega,hfin.out _ hb2.out⟩
     case measure=>simp [intOf];omega
    ·go_simp;refine hK _ _ ?_;clear hK K;refine wpAnyIn_ready (rs:=[1,6]) (by kernel_rfl) (by simp) ?_
     refine AllReadyIn.cons rfl (fun K hK=>?_) (AllReadyIn.cons rfl (fun K hK=>?_) AllReadyIn.nil)
     ·go_simp;refine hK _ _ ?_;clear hK K;refine wpAnyIn_ready (rs:=[6]) (by kernel_rfl) (by simp) ?_
      refine AllReadyIn.cons rfl (fun K hK=>?_) AllReadyIn.nil
      (go_simp;refine ⟨trivial,?_⟩;gi_at_call 195;refine (hzc.out _).mono ?_;rintro e w1 ⟨rfl,hb1⟩;have hb2:=HB.out.trans (hb1.mono (by simp));obtain ⟨g1,g2⟩:=hm1.out _ hb2;have hu:=u1'.out _ g1;replace hb2:=Lib.hid hb2;replace g1:=Lib.hid g1;clear hb1)
      refine hK _ _ ?_;clear hK K;refine wpAnyIn_ready (rs:=[7]) (by kernel_rfl) (by simp) ?_
      refine AllReadyIn.cons rfl (fun K hK=>?_) AllReadyIn.nil;go_simp;refine hK _ _ ?_;clear hK K;refine wpAnyIn_done (by kernel_rfl) ?_ _
      gi_wp2
      go_roundw
      case rel=>exact ⟨j+1,by go_num,by omega,hfin.out _ hb2.out⟩
      case measure=>simp [intOf];omega
     ·(go_simp;refine ⟨trivial,?_⟩;gi_at_call 195;refine (hzc.out _).mono ?_;rintro e w1 ⟨rfl,hb1⟩;have hb2:=HB.out.trans (hb1.mono (by simp));obtain ⟨g1,g2⟩:=hm1.out _ hb2;have hu:=u1'.out _ g1;replace hb2:=Lib.hid hb2;replace g1:=Lib.hid g1;clear hb1)
      refine hK _ _ ?_;clear hK K;refine wpAnyIn_ready (rs:=[1]) (by kernel_rfl) (by simp) ?_
      refine AllReadyIn.cons rfl (fun K hK=>?_) AllReadyIn.nil;go_simp;refine hK _ _ ?_;clear hK K;refine wpAnyIn_ready (rs:=[7]) (by kernel_rfl) (by simp) ?_
      refine AllReadyIn.cons rfl (fun K hK=>?_) AllReadyIn.nil;go_simp;refine hK _ _ ?_;clear hK K;refine wpAnyIn_done (by kernel_rfl) ?_ _
      gi_wp2
      go_roundw
      case rel=>exact ⟨j+1,by go_num,by omega,hfin.out _ hb2.out⟩
      case measure=>simp [intOf];omega
   ·obtain rfl:j=cx.fields.length:=by omega
    have hall:Hid (NewI E w wr cl (ups E.f.classes (pre++[(n:Int)]))):=by
     show NewI _ _ _ _ _
     have h1:=hNI2.out;rw [show ups1 E.f.classes pre n cx.fields.length=ups E.f.classes (pre++[(n:Int)]) from funext fun k=>by rw [← ups1_all,Int.toNat_natCast,hat.out]] at h1
     exact h1
    clear hfe
    gi_wp2
    exact ⟨hKF,hK,hall.out⟩
 case done =>
  rintro D ys W hD rfl HN hK;obtain ⟨es,c,pm,m1,m2,m3⟩:=HN.mp;have hMI:Hid (MapIs es (fresh E.f.classes cl)):=⟨pm,m2,fun k=>(m3 k).trans (Run.ups_fresh hwf.out cl k)⟩;have HW:=Lib.hid (HH.out.below HN.below);have hhbW:E.hb < W.heap.size:=Nat.lt_of_lt_of_le hhb HN.below.size;have d8:=kept HN.below hhb c8;have f8:=HW.out.fz 8 (by decide)
  have t2:=HN.t2;have o0:=HN.o0;have o1:=HN.o1;have r0:=HN.r0;have r1:=HN.r1;have f0:=HN.f0;have f1:=HN.f1;have hlo:=HN.lo;have hD6:w.heap.size+1+1+1+1+1+1≤D:=by omega
  have hDW:D < W.heap.size:=(Array.getElem?_eq_some_iff.1 hK).1;have hb:=Lib.hid HN.below;replace m1:=Lib.hid m1;have hK':=Lib.hid hK
  have hoW:Hid (W.ownsRow E.B 93 2 (.slice ba h.objs.length bcap) h.objs.length (ocells h.objs L.mbs)):=by
   show World.ownsRow _ _ _ _ _ _ _
   rw [← hvb];exact HW.out.objs
  obtain ⟨io,hi',hy0,hy1,hy2⟩:=info_parts info_obj;have hhb6:E.hb < W.heap.size+1:=by omega
  have hs1:w.heap.size < W.heap.size:=by omega
  have hs2:w.heap.size+1 < W.heap.size:=by omega
  have hs3:w.heap.size+1+1+1 < W.heap.size:=by omega
  clear hK m2 m3 HN cA k4 k5 hC6 hW6
  gi_wp2
  refine wpIn_wide.2 ?_;refine wp_region_noPanic ?_;refine Drawn.hd (fun w'=>w'.cell? ⟨w.heap.size,0,none⟩=some (.pointer (some ⟨E.hb,0,none⟩))∧w'.cell? ⟨w.heap.size+1+1+1,0,none⟩=some (.int .i64 cl)∧w'.cell? ⟨w.heap.size+1+1+1,1,none⟩=some (.map (some (w.heap.size+1+1)))) (h:=fun hHeld=>?_);refine dT 0 51 ?_;refine dT 1 52 ?_;refine dT 2 53 ?_;refine dT 3 54 ?_;refine dT 5 56 ?_;refine wpAnyH_ready (rs:=[4,6]) (by kernel_rfl) (by simp) ?_
  refine AllReadyH.cons rfl (fun K hK=>?_) (AllReadyH.cons rfl (fun K hK=>?_) AllReadyH.nil)
  ·go_simp;refine Drawn.bk hK (h:=fun hHeld=>?_);clear hK K;refine Drawn.cl 6 (fun K hK=>?_);go_simp;refine Drawn.bk hK (h:=fun hHeld=>?_);clear hK K;refine wpAnyH_ready (rs:=[7]) (by kernel_rfl) (by simp) ?_
   refine AllReadyH.cons rfl (fun K hK=>?_) AllReadyH.nil;refine step_append_lies _ rfl (.tmp 55) (.tmp 57) 56 rfl E.B 93 io (.agg #[.int .i64 0,.map none]) 2 16 Tryz.underlying56 hi' hy0 hy1 hy2 rfl (by decide) (.slice ba h.objs.length bcap) h.objs.length (ocells h.objs L.mbs) (by simp [Act.eval,Act.put]) (by exact row_drew (hoW.out.alloc _)) ⟨W.heap.size,0,none⟩ 1 1 [.int .i64 cl,.map (some (w.heap.size+1+1))] (by simp [Act.eval,Act.put]) rfl (by exact news_of (by simp)) (by simp [Value.oneCell']) (by decide) (by unfold maxLen;omega) (by omega) (by simp;omega) _ rfl ?_
   intro g2 cap2 w3 hown3 hgrow3 hat3 hlt3
   rw [← hvb] at hgrow3 hat3;have OB:=obj_mid HW.out (by exact Rd.byB) hgrow3
   have q1:w3.cell? ⟨E.hb,8,none⟩=some (.slice ba h.objs.length bcap):=by rw [← hvb];exact (OB 8 (by simp [cellsP])).1
   have q2:w3.frozen? ⟨E.hb,8,none⟩=false:=(OB 8 (by simp [cellsP])).2
   have K3:Kp (fun k=>L.vb.ownBlock=some k) W w3:=(Kp.of_below (by exact Rd.byB) (Nat.le_refl _)).trans (Kp.of_grown (X:=fun k=>L.vb.ownBlock=some k) hgrow3 (fun k e=>e)) (fun y hy=>.inl hy)
   have nf:∀ k,w.heap.size≤k→¬ L.vb.ownBlock=some k:=fun k hk e=>by have:=(own_lo HH.out (.inr (.inr (.inl e)))).2;omega
   have b1:=K3.cell t2 (nf _ (by omega))
   have b2:=K3.cell o0 (nf _ (by omega))
   have b3:=K3.cell o1 (nf _ (by omega))
   have b4:=K3.cell r0 (nf _ (by omega))
   have b5:=K3.cell r1 (nf _ (by omega))
   have b6:=K3.frz f0 (cell_lt r0) (nf _ (by omega))
   have b7:=K3.frz f1 (cell_lt r0) (nf _ (by omega))
   have hKD:w3.heap[D]? = some (.deferred (some [])):=by rw [K3.block _ hDW (nf _ (by omega))];exact hK'.out
   have HA:=Lib.hid (grow_obj (o:=⟨cl,fresh E.f.classes cl⟩) (m:=w.heap.size+1+1) HH.out (Below.trans hb.out (by exact Rd.byB)) (by omega) (W:=(W.alloc (.cells #[.int .i64 cl,.map (some (w.heap.size+1+1))] 93)).drew) ((Below.heap_alloc _ _ _ (by omega)).trans m1.out) hMI.out hown3 hgrow3 (by simpa using hat3))
   replace hKD:=Lib.hid hKD;replace hat3:=Lib.hid hat3;clear hown3 hgrow3 OB nf K3;refine Drawn.bk hK (hS:=by (try dsimp only);exact ⟨b1,b2,b3⟩) (h:=fun hHeld=>?_)
   clear hK K;refine dT 8 59 ?_;refine dT 9 60 ?_;refine Drawn.cl 10 (fun K hK=>?_);go_simp;refine Drawn.bk hK (h:=fun hHeld=>?_);clear hK K;refine dN ?_;refine NoPanic.normal ?_
   go_wp2_with fail
   gi_wp2
   have hK4:=UpW.setCell_obj (UpW.setCell_obj (UpW.setCell_obj hKD.out (p:=⟨E.hb,8,none⟩) (v:=.slice (some ⟨g2,0,none⟩) (h.objs.length+1) cap2) rfl) (p:=⟨w.heap.size+1,0,none⟩) (v:=.int .i64 3) rfl) (p:=⟨w.heap.size+1,1,none⟩) (v:=.int .i64 h.objs.length) rfl;have y0:World.cell? (((w3.setCell ⟨E.hb,8,none⟩ (.slice (some ⟨g2,0,none⟩) (h.objs.length+1) cap2)).setCell ⟨w.heap.size+1,0,none⟩ (.int .i64 3)).setCell ⟨w.heap.size+1,1,none⟩ (.int .i64 h.objs.length)) ⟨w.heap.size+1,0,none⟩=some (.int .i64 3):=by go_simp
   have y1:World.cell? (((w3.setCell ⟨E.hb,8,none⟩ (.slice (some ⟨g2,0,none⟩) (h.objs.length+1) cap2)).setCell ⟨w.heap.size+1,0,none⟩ (.int .i64 3)).setCell ⟨w.heap.size+1,1,none⟩ (.int .i64 h.objs.length)) ⟨w.heap.size+1,1,none⟩=some (.int .i64 h.objs.length):=by go_simp
   have z0:=cell_kept y0 (grownBy_putObj' _ D (.deferred none)) (fun r e=>by cases e;exact ⟨_,hK4,rfl⟩)
   have z1:=cell_kept y1 (grownBy_putObj' _ D (.deferred none)) (fun r e=>by cases e;exact ⟨_,hK4,rfl⟩)
   have hfin:=Lib.hid (new_end (W:=W) HH.out HA.out (hat3.out.imp id (fun e=>by rw [e];simp)) rfl (by omega) (by omega) hDW (.int .i64 3) (.int .i64 h.objs.length) (.deferred none))
   refine ⟨by simp,.inl ⟨_,_,rfl,run_takeDeferred hK4,?_⟩⟩
   refine ⟨.agg #[.int .i64 3,.int .i64 h.objs.length],?_,rfl,hfin.out⟩;clear y0 y1;simp [results,Tryz.f163,go_sem,z0,z1]
  ·go_simp;refine Drawn.bk hK (h:=fun hHeld=>?_);clear hK K;refine Drawn.cl 4 (fun K hK=>?_);go_simp;refine Drawn.bk hK (h:=fun hHeld=>?_);clear hK K;refine wpAnyH_ready (rs:=[7]) (by kernel_rfl) (by simp) ?_
   refine AllReadyH.cons rfl (fun K hK=>?_) AllReadyH.nil;refine step_append_lies _ rfl (.tmp 55) (.tmp 57) 56 rfl E.B 93 io (.agg #[.int .i64 0,.map none]) 2 16 Tryz.underlying56 hi' hy0 hy1 hy2 rfl (by decide) (.slice ba h.objs.length bcap) h.objs.length (ocells h.objs L.mbs) (by simp [Act.eval,Act.put]) (by exact row_drew (hoW.out.alloc _)) ⟨W.heap.size,0,none⟩ 1 1 [.int .i64 cl,.map (some (w.heap.size+1+1))] (by simp [Act.eval,Act.put]) rfl (by exact news_of (by simp)) (by simp [Value.oneCell']) (by decide) (by unfold maxLen;omega) (by omega) (by simp;omega) _ rfl ?_
   intro g2 cap2 w3 hown3 hgrow3 hat3 hlt3
   rw [← hvb] at hgrow3 hat3;have OB:=obj_mid HW.out (by exact Rd.byB) hgrow3
   have q1:w3.cell? ⟨E.hb,8,none⟩=some (.slice ba h.objs.length bcap):=by rw [← hvb];exact (OB 8 (by simp [cellsP])).1
   have q2:w3.frozen? ⟨E.hb,8,none⟩=false:=(OB 8 (by simp [cellsP])).2
   have K3:Kp (fun k=>L.vb.ownBlock=some k) W w3:=(Kp.of_below (by exact Rd.byB) (Nat.le_refl _)).trans (Kp.of_grown (X:=fun k=>L.vb.ownBlock=some k) hgrow3 (fun k e=>e)) (fun y hy=>.inl hy)
   have nf:∀ k,w.heap.size≤k→¬ L.vb.ownBlock=some k:=fun k hk e=>by have:=(own_lo HH.out (.inr (.inr (.inl e)))).2;omega
   have b1:=K3.cell t2 (nf _ (by omega))
   have b2:=K3.cell o0 (nf _ (by omega))
   have b3:=K3.cell o1 (nf _ (by omega))
   have b4:=K3.cell r0 (nf _ (by omega))
   have b5:=K3.cell r1 (nf _ (by omega))
   have b6:=K3.frz f0 (cell_lt r0) (nf _ (by omega))
   have b7:=K3.frz f1 (cell_lt r0) (nf _ (by omega))
   have hKD:w3.heap[D]? = some (.deferred (some [])):=by rw [K3.block _ hDW (nf _ (by omega))];exact hK'.out
   have HA:=Lib.hid (grow_obj (o:=⟨cl,fresh E.f.classes cl⟩) (m:=w.heap.size+1+1) HH.out (Below.trans hb.out (by exact Rd.byB)) (by omega) (W:=(W.alloc (.cells #[.int .i64 cl,.map (some (w.heap.size+1+1))] 93)).drew) ((Below.heap_alloc _ _ _ (by omega)).trans m1.out) hMI.out hown3 hgrow3 (by simpa using hat3))
   replace hKD:=Lib.hid hKD;replace hat3:=Lib.hid hat3;clear hown3 hgrow3 OB nf K3;refine Drawn.bk hK (hS:=by (try dsimp only);exact ⟨b1,b2,b3⟩) (h:=fun hHeld=>?_)
   clear hK K;refine dT 8 59 ?_;refine dT 9 60 ?_;refine Drawn.cl 10 (fun K hK=>?_);go_simp;refine Drawn.bk hK (h:=fun hHeld=>?_);clear hK K;refine dN ?_;refine NoPanic.normal ?_
   go_wp2_with fail
   gi_wp2
   have hK4:=UpW.setCell_obj (UpW.setCell_obj (UpW.setCell_obj hKD.out (p:=⟨E.hb,8,none⟩) (v:=.slice (some ⟨g2,0,none⟩) (h.objs.length+1) cap2) rfl) (p:=⟨w.heap.size+1,0,none⟩) (v:=.int .i64 3) rfl) (p:=⟨w.heap.size+1,1,none⟩) (v:=.int .i64 h.objs.length) rfl;have y0:World.cell? (((w3.setCell ⟨E.hb,8,none⟩ (.slice (some ⟨g2,0,none⟩) (h.objs.length+1) cap2)).setCell ⟨w.heap.size+1,0,none⟩ (.int .i64 3)).setCell ⟨w.heap.size+1,1,none⟩ (.int .i64 h.objs.length)) ⟨w.heap.size+1,0,none⟩=some (.int .i64 3):=by go_simp
   have y1:World.cell? (((w3.setCell ⟨E.hb,8,none⟩ (.slice (some ⟨g2,0,none⟩) (h.objs.length+1) cap2)).setCell ⟨w.heap.size+1,0,none⟩ (.int .i64 3)).setCell ⟨w.heap.size+1,1,none⟩ (.int .i64 h.objs.length)) ⟨w.heap.size+1,1,none⟩=some (.int .i64 h.objs.length):=by go_simp
   have z0:=cell_kept y0 (grownBy_putObj' _ D (.deferred none)) (fun r e=>by cases e;exact ⟨_,hK4,rfl⟩)
   have z1:=cell_kept y1 (grownBy_putObj' _ D (.deferred none)) (fun r e=>by cases e;exact ⟨_,hK4,rfl⟩)
   have hfin:=Lib.hid (new_end (W:=W) HH.out HA.out (hat3.out.imp id (fun e=>by rw [e];simp)) rfl (by omega) (by omega) hDW (.int .i64 3) (.int .i64 h.objs.length) (.deferred none))
   refine ⟨by simp,.inl ⟨_,_,rfl,run_takeDeferred hK4,?_⟩⟩
   refine ⟨.agg #[.int .i64 3,.int .i64 h.objs.length],?_,rfl,hfin.out⟩;clear y0 y1;simp [results,Tryz.f163,go_sem,z0,z1]
 case stop =>
  rintro D e pre W hD hpre HF hK;exact HF.elim
end
end Hpw
namespace Hpw
open Num Rd D Run Mem HierW
section
variable {E:Ev}{w w' wr W w2:World}{L L':Lay}{h h':Hp}{d:Nat}{α:Type}{V:α→Value}
def PanR (E:Ev) (L:Lay) (d:Nat) (w:World) (V:α→Value) (r:Res α) (e:Ending) (w':World):Prop:=match r with
 | .ok a h=>e=.returned (V a)∧Lft E L d w w' h
 | .thrown o h=>e=pan (thrownV o)∧Lft E L d w w' h
 | .stop c h=>e=pan (stopV c)∧Lft E L d w w' h
theorem Lft.trans {w1 w2:World}{h2:Hp}(A:Kp (own E L) w w1) (N:∀ k,own E L' k→own E L k∨w.heap.size≤k) (B:Lft E L' d w1 w2 h2):Lft E L d w w2 h2:=by
 obtain ⟨L2,K,N2,H⟩:=B
 have:=A.size
 exact ⟨L2,A.trans K (fun y hy=>N y hy),fun k hk=>(N2 k hk).elim (N k) (fun q=>.inr (by omega)),H⟩
theorem Lft.below {w1 w2:World}(A:Lft E L d w w1 h) (hb:Below w1.heap.size w1 w2):Lft E L d w w2 h:=by
 obtain ⟨L2,K,N2,H⟩:=A;exact ⟨L2,kb K hb,N2,H.below hb⟩
theorem Lft.before {w1 w2:World}(hb:Below w.heap.size w w1) (A:Lft E L d w1 w2 h):Lft E L d w w2 h:=A.trans (kpB hb) same_own
set_option maxRecDepth 100000 in
theorem fieldN (a b:Value) (w:World):(Instr.field 46 (.agg #[a,b]) 1).run Tryz.prog w=.ok b w:=by kernel_rfl
def raiseV (h:Hp):Value:=if 100≤h.objs.length then stopV 4 else thrownV h.objs.length
def raiseH (l:List Cls) (cl:Int) (h:Hp):Hp:=if 100≤h.objs.length then h else more h ⟨cl,fresh l cl⟩
theorem panR_raise {cl:Int}(A:Lft E L d w w' (raiseH E.f.classes cl h)):PanR E L d w V (raise E.f.classes cl h) (pan (raiseV h)) w':=by
 unfold raiseH at A;unfold raiseV
 by_cases q:100≤h.objs.length
 ·rw [if_pos q] at A ⊢;have hr:(raise E.f.classes cl h:Res α)=.stop 4 h:=by unfold raise new;rw [if_pos q];rfl
  rw [hr];exact ⟨rfl,A⟩
 ·rw [if_neg q] at A ⊢;have hr:(raise E.f.classes cl h:Res α)=.thrown h.objs.length (more h ⟨cl,fresh E.f.classes cl⟩):=by unfold raise new;rw [if_neg q];simp [Res.bind,more]
  rw [hr];exact ⟨rfl,A⟩
set_option maxRecDepth 100000 in
theorem raiseP (H:PH E w L h d) (hm:Hier.may E.f.classes=true) (cl:Int) :
  Calls Tryz.prog 155 #[.pointer (some ⟨E.hb,0,none⟩),.int .i64 cl] w fun e w'=>e=.panicked [{ v:=raiseV h,recovered:=false }]∧Lft E L d w w' (raiseH E.f.classes cl h):=by
 have HH:=Lib.hid H
 by_cases q:100≤h.objs.length
 ·have h1:Hid (raiseV h=stopV 4):=by show _=_;unfold raiseV;rw [if_pos q]
  have h2:Hid (raiseH E.f.classes cl h=h):=by show _=_;unfold raiseH;rw [if_pos q]
  rw [h1.out,h2.out];clear H
  go_enter Tryz.func155,Tryz.ntmps155
  go_wp2_with (go_at_call 163;refine (newFull HH.out cl q).mono ?_;rintro e w1 ⟨rfl,hb⟩;unfold pan)
  refine And.intro rfl ?_;exact ⟨rfl,Lft.of_below HH.out hb⟩
 ·have h1:Hid (raiseV h=thrownV h.objs.length):=by show _=_;unfold raiseV;rw [if_neg q]
  have h2:Hid (raiseH E.f.classes cl h=more h ⟨cl,fresh E.f.classes cl⟩):=by show _=_;unfold raiseH;rw [if_neg q]
  rw [h1.out,h2.out];have hfl:=fieldN;clear H
  go_enter Tryz.func155,Tryz.ntmps155
  go_wp2_with (go_at_call 163;refine (newOk HH.out hm cl (by omega)).mono ?_;rintro e w1 ⟨rfl,hl⟩;replace hl:=Lib.hid hl)
  refine And.intro rfl ?_;exact ⟨rfl,hl.out⟩
set_option maxRecDepth 100000 in
theorem throwP (H:PH E w L h d) (hm:Hier.may E.f.classes=true) (v:Vl) :
  Calls Tryz.prog 109 #[.pointer (some ⟨E.hb,0,none⟩),.agg #[.int .i64 v.kind,.int .i64 v.n]] w (PanR E L d w V (Run.throw E.f.classes v h)):=by
 have HH:=Lib.hid H;have hb:=Lib.hid (show Below w.heap.size w (w.alloc (.cells #[.int .i64 v.kind,.int .i64 v.n] 46)) from Rd.byB)
 by_cases q:v.kind=3
 ·have qb:(v.kind==3)=true:=by simpa using q
  by_cases q2:v.n < 0
  ·have hr:Hid ((Run.throw E.f.classes v h:Res α)=raise E.f.classes 1 h):=by show _=_;unfold Run.throw;rw [if_neg (by simpa using q),if_pos q2]
   have qd:decide (v.n < 0)=true:=by simpa using q2
   rw [hr.out];clear H q q2
   go_enter Tryz.func109,Tryz.ntmps109
   go_wp2_with (first | (go_at_call 97;refine (mustT _).mono ?_;rintro e w1 ⟨rfl,rfl⟩) | (go_at_call 155;refine (raiseP (HH.out.below hb.out) hm 1).mono ?_;rintro e w1 ⟨rfl,A⟩;replace A:=Lib.hid A))
   refine And.intro rfl ?_;exact panR_raise (Lft.before hb.out A.out)
  ·have hr:Hid ((Run.throw E.f.classes v h:Res α)=.thrown v.n.toNat h):=by show _=_;unfold Run.throw;rw [if_neg (by simpa using q),if_neg q2]
   have qd:decide (v.n < 0)=false:=by simpa using q2
   have hn:Hid (v.n=(v.n.toNat:Int)):=by show _=_;omega
   rw [hr.out];clear H q q2
   go_enter Tryz.func109,Tryz.ntmps109
   go_wp2_with (go_at_call 97;refine (mustT _).mono ?_;rintro e w1 ⟨rfl,rfl⟩)
   refine And.intro rfl ?_;refine ⟨?_,Lft.of_below HH.out hb.out⟩;unfold pan thrownV;rw [← hn.out]
 ·have qb:(v.kind==3)=false:=by simpa using q
  have hr:Hid ((Run.throw E.f.classes v h:Res α)=.stop 6 h):=by show _=_;unfold Run.throw;rw [if_pos q]
  rw [hr.out];clear H q
  go_enter Tryz.func109,Tryz.ntmps109
  go_wp2_with (go_at_call 97;refine (mustF _).mono ?_;rintro e w1 ⟨rfl,rfl⟩)
  refine And.intro rfl ?_;exact ⟨rfl,Lft.of_below HH.out hb.out⟩
theorem info_int64:(Tryz.prog.info? 2).map (fun i=>(i.zero,i.size,i.bytes))=some (some (.int .i64 0),1,8):=by kernel_rfl
def outed (h:Hp) (n:Int):Hp:={ h with out:=h.out++[n] }
theorem grow_out (H:PH E w L h d) (hW:Below w.heap.size w W){g cap:Nat}{n:Int}
  (ho:w2.ownsRow E.B 2 1 (.slice (some ⟨g,0,none⟩) (h.out.length+1) cap) (h.out.length+1) (h.out.map (.int .i64 ·)++[.int .i64 n])) (hg:W.grownBy w2 L.vo.ownBlock) (hat:L.vo.ownBlock=some g∨g=W.heap.size) :
  Lft E L d w (w2.setCell ⟨E.hb,5,none⟩ (.slice (some ⟨g,0,none⟩) (h.out.length+1) cap)) (outed h n):=by
 have HW:=H.below hW;have hsz:=hW.size;obtain ⟨n1,n2,n3⟩:=hb_no H;have hvo:∀ k,L.vo.ownBlock=some k→own E L k:=fun k e=>.inr (.inl e);have hK:Kp (fun k=>L.vo.ownBlock=some k) W w2:=Kp.of_grown hg (fun k e=>e)
 have apart:∀ k,(L.vo.ownBlock=some k)→k≠E.hb∧L.vb.ownBlock≠some k∧k∉L.mbs:=by
  intro k e
  refine ⟨fun q=>n1 (q ▸ e),H.apart.2.2 k e,fun hm=>?_⟩;obtain ⟨i,hi,e2⟩:=List.getElem_of_mem hm;obtain ⟨es,c,h1,_⟩:=H.maps i hi;rw [e2] at h1;exact row_nomap H.out e h1
 have gap:g≠E.hb∧L.vb.ownBlock≠some g∧g∉L.mbs:=by
  rcases hat with e | e
  ·exact apart g e
  ·refine ⟨by have:=H.hbw;omega,fun q=>?_,fun q=>?_⟩
   ·have:=(own_lo H (.inr (.inr (.inl q)))).2;omega
   ·have:=(own_lo H (.inr (.inr (.inr q)))).2;omega
 have hcell:Kp (fun k=>k=E.hb) w2 (w2.setCell ⟨E.hb,5,none⟩ (.slice (some ⟨g,0,none⟩) (h.out.length+1) cap)):=Kp.setCell (Kp.refl (fun k=>k=E.hb) w2) (p:=⟨E.hb,5,none⟩) (.inl rfl) _
 have hKK:Kp (own E L) w (w2.setCell ⟨E.hb,5,none⟩ (.slice (some ⟨g,0,none⟩) (h.out.length+1) cap)) :=
  ((kpB hW:Kp (own E L) w W).trans hK (fun y hy=>.inl (hvo y hy))).trans hcell (fun y hy=>.inl (.inl hy))
 have hb0:E.B≤w.heap.size:=by have:=H.base;omega
 have hlo:∀ k,own E L k→E.B≤k:=fun k hk=>(own_lo H hk).1
 have hap:∀ k,(Value.slice (some ⟨g,0,none⟩) (h.out.length+1) cap).ownBlock=some k→L.vb.ownBlock≠some k:=fun k e=>by
  have:k=g:=by simpa [Value.ownBlock,eq_comm] using e
  subst this;exact gap.2.1
 refine ⟨⟨.slice (some ⟨g,0,none⟩) (h.out.length+1) cap,L.vb,L.mbs⟩,hKK,fun k hk=>?_,?_⟩
 ·rcases hk with e | e | e | e
  ·exact .inl (.inl e)
  ·have:k=g:=by simpa [Value.ownBlock,eq_comm] using e
   subst this
   rcases hat with e | e
   ·exact .inl (hvo _ e)
   ·right;omega
  ·exact .inl (.inr (.inr (.inl e)))
  ·exact .inl (.inr (.inr (.inr e)))
 ·refine ⟨?_,hKK.sl mCls H.cls hb0 hlo,hKK.sl mMe H.mes hb0 hlo,hKK.sl mInt H.inp hb0 hlo,?_,?_,H.many,fun i hi=>?_,⟨H.base.1,Nat.lt_of_lt_of_le H.base.2.1 hKK.size,H.base.2.2⟩,⟨fun e=>gap.1 (by simpa [Value.ownBlock] using e),n2,hap⟩,H.nodup⟩
  ·have c1:Blk w2 E.hb (cellsP E L h d):=HW.cells.next hK (fun e=>(apart _ e).1 rfl);exact c1.set 5 (by simp [cellsP]) _
  ·unfold outed;simp only [List.length_append,List.length_cons,List.length_nil,List.map_append,List.map_cons,List.map_nil];exact ownsRow_setCell_other ho (by simp [Value.ownBlock];exact gap.1) _
  ·exact row_keep (row_keep HW.objs hK (fun k e e'=>(apart k e').2.1 e)) hcell (fun k e e'=>by subst e';exact n2 e)
  ·obtain ⟨es,c,g1,g2⟩:=HW.maps i hi;have hlt:=(Array.getElem?_eq_some_iff.1 g1).1;refine ⟨es,c,?_,g2⟩;rw [hcell.block _ (Nat.lt_of_lt_of_le hlt hK.size) (fun e=>n3 (e ▸ List.getElem_mem hi)),hK.block _ hlt (fun e=>(apart _ e).2.2 (List.getElem_mem hi))];exact g1
theorem out_mid (H:PH E w L h d) (hW:Below w.heap.size w W) (hg:W.grownBy w2 L.vo.ownBlock):Blk w2 E.hb (cellsP E L h d) :=
 (H.below hW).cells.next (Kp.of_grown (X:=fun k=>L.vo.ownBlock=some k) hg (fun k e=>e)) (fun e=>(hb_no H).1 e)
set_option maxRecDepth 100000 in
theorem emitP (H:PH E w L h d) (v:Vl) (kind:Int) (hlen:h.out.length≤60000) :
  Calls Tryz.prog 168 #[.pointer (some ⟨E.hb,0,none⟩),.agg #[.int .i64 v.kind,.int .i64 v.n],.int .i64 kind] w (PanR E L d w (fun _=>.tuple #[]) (Run.emit v kind h)):=by
 by_cases q:v.kind=kind
 ·have hr:Hid (Run.emit v kind h=.ok () (outed h v.n)):=by show _=_;unfold Run.emit;rw [if_neg (by simpa using q)];rfl
  rw [hr.out];obtain ⟨io,hi',hy0,hy1,hy2⟩:=info_parts info_int64;have HH:=Lib.hid H;have hhb:=H.hbw;have hB2:E.B≤w.heap.size:=by have:=H.base;omega
  have c5:=H.c5;obtain ⟨ba,bcap,hvo⟩:=row_any H.out
  have ho2:Hid (w.ownsRow E.B 2 1 (.slice ba h.out.length bcap) h.out.length (h.out.map (.int .i64 ·))):=by
   show World.ownsRow _ _ _ _ _ _ _
   rw [← hvo];exact H.out
  rw [hvo] at c5;obtain ⟨kd,n⟩:=v;simp only at q;subst q;have f5:=H.fz 5 (by decide)
  clear H
  go_enter Tryz.func168,Tryz.ntmps168
  go_wp2_with (go_at_call 97;refine (mustT _).mono ?_;rintro e w2 ⟨rfl,rfl⟩)
  go_region_law ((refine step_append_lies _ rfl (.tmp 16) (.tmp 19) 26 rfl E.B 2 io (.int .i64 0) 1 8 Tryz.underlying26 hi' hy0 hy1 hy2 rfl (by decide) (.slice ba h.out.length bcap) h.out.length (h.out.map (.int .i64 ·)) (by simp [Act.eval,Act.put]) (by exact row_drew ((ho2.out.alloc _).alloc _)) ⟨w.heap.size+1,0,none⟩ 1 1 [.int .i64 n] (by simp [Act.eval,Act.put]) rfl (by exact news_of (by simp)) (by simp [Value.oneCell']) (by decide) (by unfold maxLen;omega) (by omega) (by simp;omega) _ rfl ?_;intro g2 cap2 w3 hown3 hgrow3 hat3 hlt3;rw [← hvo] at hgrow3 hat3;have OB:=out_mid HH.out (by exact Rd.byB) hgrow3;have q1:w3.cell? ⟨E.hb,5,none⟩=some (.slice ba h.out.length bcap):=(by rw [← hvo];exact (OB 5 (by simp [cellsP])).1);have q2:w3.frozen? ⟨E.hb,5,none⟩=false:=(OB 5 (by simp [cellsP])).2;have HA:=Lib.hid (grow_out HH.out (by exact Rd.byB) hown3 hgrow3 (by simpa using hat3));clear hown3 hgrow3 hat3 OB))
  all_goals
   go_end0
   exact ⟨rfl,HA.out⟩
 ·have hr:Hid (Run.emit v kind h=.stop 6 h):=by show _=_;unfold Run.emit;rw [if_pos q]
  rw [hr.out];have HH:=Lib.hid H;have qb:(v.kind==kind)=false:=by simpa using q
  clear H
  go_enter Tryz.func168,Tryz.ntmps168
  go_wp2_with (go_at_call 97;refine (mustF _).mono ?_;rintro e w2 ⟨rfl,rfl⟩)
  refine And.intro rfl ?_;exact ⟨rfl,Lft.of_below HH.out Rd.byB⟩
end
end Hpw
namespace Hpw
open Num Rd D Run Mem HierW
theorem frz_kept {B:Nat}{w w':World}{b o:Nat}{x:Bool}(hb:Below B w w') (hlt:b < B) (h:w.frozen? ⟨b,o,none⟩=x):w'.frozen? ⟨b,o,none⟩=x:=(World.frozen?_of_block (a:=⟨b,o,none⟩) (hb.block b hlt)).trans h
section
variable {E:Ev}{w w' wr W w2:World}{L L':Lay}{h h':Hp}{d:Nat}
set_option maxRecDepth 100000 in
theorem fieldStuck (H:PH E w L h d) (hm:Hier.may E.f.classes=true) (v:Vl) (c k:Int) (hv:v.kind=3→v.n < h.objs.length) (ho:ofT E.f.classes h v ⟨3,c⟩=false) :
  Calls Tryz.prog 196 #[.pointer (some ⟨E.hb,0,none⟩),.agg #[.int .i64 v.kind,.int .i64 v.n],.int .i64 c,.int .i64 k] w fun e w'=>e=pan (stopV 6)∧Lft E L d w w' h:=by
 have HH:=Lib.hid H;have HO:=Lib.hid ho;have HV:=Lib.hid hv;obtain ⟨kd,n⟩:=v;clear H ho hv
 go_enter Tryz.func196,Tryz.ntmps196
 go_wp2_with (first | (go_at_call 98;refine (of E L h d ⟨kd,n⟩ ⟨3,c⟩ _ (HH.out.below (by exact Rd.byB)) hm HV.out).mono ?_;rw [HO.out];rintro e w1 ⟨rfl,hb1⟩;have HB1:=Lib.hid (show Below w.heap.size w w1 from Below.trans (by exact Rd.byB) (hb1.mono (by simp <;> omega)));clear hb1) | (go_at_call 97;refine (mustF _).mono ?_;rintro e w2 ⟨rfl,rfl⟩))
 refine And.intro rfl ?_;exact ⟨rfl,Lft.of_below HH.out HB1.out⟩
set_option maxRecDepth 100000 in
theorem fieldNull (H:PH E w L h d) (hm:Hier.may E.f.classes=true) (v:Vl) (c k:Int) (hv:v.kind=3→v.n < h.objs.length) (ho:ofT E.f.classes h v ⟨3,c⟩=true) (hn:v.n < 0) :
  Calls Tryz.prog 196 #[.pointer (some ⟨E.hb,0,none⟩),.agg #[.int .i64 v.kind,.int .i64 v.n],.int .i64 c,.int .i64 k] w fun e w'=>e=pan (raiseV h)∧Lft E L d w w' (raiseH E.f.classes 1 h):=by
 have HH:=Lib.hid H;have HO:=Lib.hid ho;have HV:=Lib.hid hv;obtain ⟨kd,n⟩:=v;have hd:decide (n < 0)=true:=by simpa using hn
 clear H ho hv hn
 go_enter Tryz.func196,Tryz.ntmps196
 go_wp2_with (first | (go_at_call 98;refine (of E L h d ⟨kd,n⟩ ⟨3,c⟩ _ (HH.out.below (by exact Rd.byB)) hm HV.out).mono ?_;rw [HO.out];rintro e w1 ⟨rfl,hb1⟩;have kk:∀ (b o:Nat) (u:Value),World.cell? _ ⟨b,o,none⟩=some u→w1.cell? ⟨b,o,none⟩=some u:=fun b o u hc=>kept hb1 (cell_lt hc) hc;have y1:=kk w.heap.size 1 (.int .i64 n) (by go_simp);clear kk;have HB1:=Lib.hid (show Below w.heap.size w w1 from Below.trans (by exact Rd.byB) (hb1.mono (by simp <;> omega)));clear hb1) | (go_at_call 97;refine (mustT _).mono ?_;rintro e w2 ⟨rfl,rfl⟩) | (go_at_call 155;refine (raiseP (HH.out.below HB1.out) hm 1).mono ?_;rintro e w2 ⟨rfl,A⟩;replace A:=Lib.hid A))
 refine And.intro rfl ?_;exact ⟨rfl,Lft.before HB1.out A.out⟩
set_option maxRecDepth 100000 in
theorem fieldOk (H:PH E w L h d) (hm:Hier.may E.f.classes=true) (n c k:Int) (hv:n < h.objs.length) (ho:ofT E.f.classes h ⟨3,n⟩ ⟨3,c⟩=true) (hn:0≤n){g cap:Nat}(hvb:L.vb=.slice (some ⟨g,0,none⟩) h.objs.length cap) (hcap:h.objs.length≤cap) :
  Calls Tryz.prog 196 #[.pointer (some ⟨E.hb,0,none⟩),.agg #[.int .i64 3,.int .i64 n],.int .i64 c,.int .i64 k] w fun e w'=>e=.returned (.tuple #[.pointer (some ⟨g,n.toNat*2,none⟩),.agg #[.int .i64 c,.int .i64 k]])∧Below w.heap.size w w':=by
 have HH:=Lib.hid H;have HO:=Lib.hid ho;have c8:=H.c8;have hhb:=H.hbw;rw [hvb] at c8;have hd:decide (n < 0)=false:=by simpa using hn
 have hlt2:n.toNat < h.objs.length:=by omega
 clear H ho
 go_enter Tryz.func196,Tryz.ntmps196
 go_wp2_with (first | (go_at_call 98;refine (of E L h d ⟨3,n⟩ ⟨3,c⟩ _ (HH.out.below (by exact Rd.byB)) hm (fun _=>hv)).mono ?_;rw [HO.out];rintro e w1 ⟨rfl,hb1⟩;have kk:∀ (b o:Nat) (u:Value),World.cell? _ ⟨b,o,none⟩=some u→w1.cell? ⟨b,o,none⟩=some u:=fun b o u hc=>kept hb1 (cell_lt hc) hc;have kf:∀ (b o:Nat) (x:Bool),b < (World.heap _).size→World.frozen? _ ⟨b,o,none⟩=x→w1.frozen? ⟨b,o,none⟩=x:=fun b o x hl hc=>frz_kept hb1 hl hc;have y1:=kk w.heap.size 1 (.int .i64 n) (by go_simp);have y2:=kk E.hb 8 (.slice (some ⟨g,0,none⟩) h.objs.length cap) (by go_simp);have y3:=kk (w.heap.size+1) 0 (.int .i64 0) (by go_simp);have y4:=kk (w.heap.size+1) 1 (.int .i64 0) (by go_simp);have y5:=kf (w.heap.size+1) 0 false (by simp) (by go_simp);have y6:=kf (w.heap.size+1) 1 false (by simp) (by go_simp);clear kk kf;have HB1:=Lib.hid (show Below w.heap.size w w1 from Below.trans (by exact Rd.byB) (hb1.mono (by simp <;> omega)));clear hb1) | (go_at_call 97;refine (mustT _).mono ?_;rintro e w2 ⟨rfl,rfl⟩))
 have hne:¬ (w.heap.size+1=E.hb):=by omega
 go_region
 all_goals
  go_wp2
  refine bodyPost_ret (v:=.tuple #[.pointer (some ⟨g,n.toNat*2,none⟩),.agg #[.int .i64 c,.int .i64 k]]) (by simp [results,Tryz.results196,go_sem] <;> go_simp) rfl ?_
  exact ⟨rfl,by have hb:=HB1.out;exact Rd.byB⟩
theorem get_raise {l:List Cls}{v:Vl}{c k:Int}(ho:ofT l h v ⟨3,c⟩=true) (hn:v.n < 0):Run.get l v c k h=raise l 1 h:=by unfold Run.get;rw [if_neg (by rw [ho];simp),if_pos hn]
theorem get_ok {l:List Cls}{v:Vl}{c k:Int}(ho:ofT l h v ⟨3,c⟩=true) (hn:¬ v.n < 0):Run.get l v c k h=.ok (find (obj h v.n).held (c,k)) h:=by unfold Run.get;rw [if_neg (by rw [ho];simp),if_neg hn]
theorem PH.mp (H:PH E w L h d){n:Int}(h0:0≤n) (h1:n < h.objs.length):∃ r es c pm,L.mbs.getD n.toNat 0=r∧r < w.heap.size∧r≠E.hb∧w.heap[r]? = some (.map es c)∧es.toList.map (fun e=>(e.key,e.val))=pm.map (fun x=>(keyV x.1,vval x.2))∧(∀ k,Hpw.look pm k=Hpw.look (obj h n).held k)∧r∈L.mbs:=by
 have hi:n.toNat < L.mbs.length:=by have:=H.many;omega
 obtain ⟨es,c,m1,pm,m2,m3⟩:=H.maps n.toNat hi;have e:L.mbs.getD n.toNat 0=L.mbs[n.toNat]:=by rw [List.getD_eq_getElem?_getD,List.getElem?_eq_getElem hi];rfl
 exact ⟨_,es,c,pm,e,(Array.getElem?_eq_some_iff.1 m1).1,fun q=>(hb_no H).2.2 (q ▸ List.getElem_mem hi),m1,m2,m3,List.getElem_mem hi⟩
set_option maxRecDepth 100000 in
theorem getP (H:PH E w L h d) (hm:Hier.may E.f.classes=true) (v:Vl) (c k:Int) (hv:v.kind=3→v.n < h.objs.length) :
  Calls Tryz.prog 164 #[.pointer (some ⟨E.hb,0,none⟩),.agg #[.int .i64 v.kind,.int .i64 v.n],.int .i64 c,.int .i64 k] w (PanR E L d w vval (Run.get E.f.classes v c k h)):=by
 have HH:=Lib.hid H
 by_cases ho:ofT E.f.classes h v ⟨3,c⟩=true
 ·by_cases hn:v.n < 0
  ·have hr:=Lib.hid (get_raise (c:=c) (k:=k) ho hn);rw [hr.out];have HO:=Lib.hid ho;have HV:=Lib.hid hv;obtain ⟨kd,n⟩:=v;simp only at hn;have hb:Below w.heap.size w (w.alloc (.cells #[.int .i64 kd,.int .i64 n] 46)):=by exact Rd.byB
   clear H ho hv hr
   go_enter Tryz.func164,Tryz.ntmps164
   go_wp2_with (go_at_call 196;refine (fieldNull (HH.out.below (by exact Rd.byB)) hm ⟨kd,n⟩ c k HV.out HO.out hn).mono ?_;rintro e w1 ⟨rfl,A⟩;have A2:=Lib.hid (Lft.before (w:=w) (by exact Rd.byB) A);clear A;unfold pan)
   refine And.intro rfl ?_;exact panR_raise A2.out
  ·have hr:=Lib.hid (get_ok (c:=c) (k:=k) ho hn);rw [hr.out];obtain ⟨kd,n⟩:=v;simp only at hn;have hk3:kd=3:=(of_ref ho).1;subst hk3;have hn0:0≤n:=by omega
   have hv1:n < h.objs.length:=hv rfl;obtain ⟨g,cap,hvb,c1,c2,hg,hgne,o0,o1⟩:=H.ob hn0 hv1;obtain ⟨r,es,cc,pm,hrr,hrw,hrne,m1,m2,m3,_⟩:=H.mp hn0 hv1;rw [hrr] at o1;have hx:Hid ((Hpw.look pm (c,k)).getD Vl.nil=find (obj h n).held (c,k)):=by show _=_;rw [m3];rfl
   have hlr:Hid (∀ W:World,W.heap[r]? = some (.map es cc)→(Instr.lookup 91 (.map (some r)) (.agg #[.int .i64 c,.int .i64 k]) false).run Tryz.prog W=.ok (vval (find (obj h n).held (c,k))) W):=fun W hW=>by
    have:=look_run hW m2 (c,k)
    rw [hx.out] at this;exact this
   obtain ⟨⟨xk,xn⟩,hxx⟩:∃ x,Hid (find (obj h n).held (c,k)=x):=⟨_,Lib.hid rfl⟩;rw [hxx.out] at hlr ⊢;have hlr2:Hid (∀ W:World,W.heap[r]? = some (.map es cc)→(Instr.lookup 91 (.map (some r)) (.agg #[.int .i64 c,.int .i64 k]) false).run Tryz.prog W=.ok (.agg #[.int .i64 xk,.int .i64 xn]) W):=hlr.out;clear hlr;have HO:=Lib.hid ho;have HVB:=Lib.hid hvb;have hhb:=H.hbw;clear H ho hv hr m2 m3 hx hvb
   go_enter Tryz.func164,Tryz.ntmps164
   go_wp2_with (go_at_call 196;refine (fieldOk (HH.out.below (by exact Rd.byB)) hm n c k hv1 HO.out hn0 HVB.out c1).mono ?_;rintro e w1 ⟨rfl,hb1⟩;have kk:∀ (b o:Nat) (u:Value),World.cell? _ ⟨b,o,none⟩=some u→w1.cell? ⟨b,o,none⟩=some u:=(fun b o u hc=>kept hb1 (cell_lt hc) hc);have kf:∀ (b o:Nat) (x:Bool),b < (World.heap _).size→World.frozen? _ ⟨b,o,none⟩=x→w1.frozen? ⟨b,o,none⟩=x:=(fun b o x hl hc=>frz_kept hb1 hl hc);have y1:=kk g (n.toNat*2+1) (.map (some r)) (by go_simp);have y3:=kk (w.heap.size+1) 0 (.int .i64 0) (by go_simp);have y4:=kk (w.heap.size+1) 1 (.int .i64 0) (by go_simp);have y5:=kf (w.heap.size+1) 0 false (by simp) (by go_simp);have y6:=kf (w.heap.size+1) 1 false (by simp) (by go_simp);have HB1:=Lib.hid (show Below w.heap.size w w1 from Below.trans (by exact Rd.byB) (hb1.mono (by simp <;> omega)));have hsz1:w.heap.size+1 < w1.heap.size:=cell_lt y3;clear kk kf hb1)
   have m1':w1.heap[r]? = some (.map es cc):=(HB1.out.block r hrw).trans m1;have yl:=hlr2.out (w1.alloc (.cells #[.int .i64 c,.int .i64 k] 263)).drew ((Below.heap_alloc _ _ _ (by omega)).trans m1')
   have hsz2:w.heap.size+1 < w1.heap.size+1:=by omega
   have hsz3:g < w1.heap.size:=cell_lt y1
   go_region
   all_goals
    go_wp2
    refine bodyPost_ret (v:=.agg #[.int .i64 xk,.int .i64 xn]) (by simp [results,Tryz.results164,go_sem] <;> go_simp) rfl ?_
    have hb:=HB1.out;exact ⟨rfl,Lft.of_below HH.out Rd.byB⟩
 ·have ho2:ofT E.f.classes h v ⟨3,c⟩=false:=by simpa using ho
  have hr:Hid (Run.get E.f.classes v c k h=.stop 6 h):=by show _=_;unfold Run.get;rw [if_pos ho2]
  rw [hr.out];have HO:=Lib.hid ho2;have HV:=Lib.hid hv;obtain ⟨kd,n⟩:=v;clear H ho hv ho2 hr
  go_enter Tryz.func164,Tryz.ntmps164
  go_wp2_with (go_at_call 196;refine (fieldStuck (HH.out.below (by exact Rd.byB)) hm ⟨kd,n⟩ c k HV.out HO.out).mono ?_;rintro e w1 ⟨rfl,A⟩;have A2:=Lib.hid (Lft.before (w:=w) (by exact Rd.byB) A);clear A;unfold pan)
  refine And.intro rfl ?_;exact ⟨rfl,A2.out⟩
end
end Hpw
namespace Hpw
open Num Rd D Run Mem HierW
theorem atOf {l:List Cls}{c:Nat}{x:Cls}(hc:c < l.length) (hx:l[c]=x):Hier.at' l c=x:=by rw [Hier.at_eq hc,hx]
theorem mapIs_become {es':Array MapEntry}{pm pm' held:List ((Int × Int) × Vl)}{k:Int × Int}{v:Vl}(h1:es'.toList.map (fun e=>(e.key,e.val))=pm'.map (fun x=>(keyV x.1,vval x.2))) (h2:∀ k',look pm' k'=if k'=k then some v else look pm k') (h3:∀ k,look pm k=look held k) (hk:k∈held.map (·.1)):MapIs es' (become held k v):=by
 refine ⟨pm',h1,fun k'=>?_⟩;rw [h2,h3];clear h1 h2 h3
 induction held with
 | nil=>simp at hk
 | cons x held ih =>
  unfold look become;simp only [List.map_cons,List.find?_cons]
  by_cases e:x.1=k
  ·rw [if_pos e]
   by_cases e2:k'=k
   ·subst e2;simp
   ·have e3:¬ k=k':=fun q=>e2 q.symm;have e4:¬ x.1=k':=fun q=>e2 (q.symm.trans e);simp only [e2,e3,e4,decide_false,if_false]
    by_cases hm:k∈held.map (·.1)
    ·have:=ih hm
     rw [if_neg e2] at this;exact this
    ·have hb:become held k v=held:=by
      unfold become;refine (List.map_congr_left (g:=id) (fun y hy=>?_)).trans (List.map_id _);have hy1:y.1≠k:=fun q=>hm (q ▸ List.mem_map.2 ⟨y,hy,rfl⟩);rw [if_neg hy1];rfl
     unfold become at hb;rw [hb]
  ·rw [if_neg e]
   have hm:k∈held.map (·.1):=by
    rcases List.mem_cons.1 hk with q | q
    ·exact absurd q.symm e
    ·exact q
   have:=ih hm
   unfold look become at this
   by_cases e3:x.1=k'
   ·have e4:¬ k'=k:=fun q=>e (e3.trans q);simp [e3,e4]
   ·simp only [e3,decide_false];exact this
section
variable {E:Ev}{w w' wr W w2:World}{L L':Lay}{h h':Hp}{d:Nat}
def putH (h:Hp) (n:Int) (k:Int × Int) (v:Vl):Hp:={ h with objs:=h.objs.set n.toNat ⟨(obj h n).cls,become (obj h n).held k v⟩ }
theorem put_type {l:List Cls}{r v:Vl}{c k:Int}{t:Ty}(h1:ofT l h v t=false):Run.put l r c k v t h=.stop 6 h:=by unfold Run.put;rw [if_pos h1]
theorem put_stuck {l:List Cls}{r v:Vl}{c k:Int}{t:Ty}(h1:ofT l h v t=true) (h2:ofT l h r ⟨3,c⟩=false):Run.put l r c k v t h=.stop 6 h:=by unfold Run.put;rw [if_neg (by rw [h1];simp),if_pos h2]
theorem put_raise {l:List Cls}{r v:Vl}{c k:Int}{t:Ty}(h1:ofT l h v t=true) (h2:ofT l h r ⟨3,c⟩=true) (hn:r.n < 0):Run.put l r c k v t h=raise l 1 h:=by unfold Run.put;rw [if_neg (by rw [h1];simp),if_neg (by rw [h2];simp),if_pos hn]
theorem put_okU {l:List Cls}{r v:Vl}{c k:Int}{t:Ty}(h1:ofT l h v t=true) (h2:ofT l h r ⟨3,c⟩=true) (hn:¬ r.n < 0):Run.put l r c k v t h=.ok () (putH h r.n (c,k) v):=by unfold Run.put;rw [if_neg (by rw [h1];simp),if_neg (by rw [h2];simp),if_neg hn];rfl
theorem PH.setMap (H:PH E w L h d) (hW:Below w.heap.size w W){n:Int}(h0:0≤n) (h1:n < h.objs.length){o:Ob}(ho:o.cls=(obj h n).cls){r:Nat}(hr:L.mbs.getD n.toNat 0=r){es':Array MapEntry}{c':Nat}(hm:MapIs es' o.held):Lft E L d w (W.putObj r (.map es' c')) { h with objs:=h.objs.set n.toNat o }:=by
 have HW:=H.below hW;have hi:n.toNat < L.mbs.length:=by have:=H.many;omega
 have er:L.mbs[n.toNat]=r:=by rw [← hr,List.getD_eq_getElem?_getD,List.getElem?_eq_getElem hi];rfl
 have hmem:r∈L.mbs:=er ▸ List.getElem_mem hi
 have hrW:r < W.heap.size:=by
  obtain ⟨es,c,g1,_⟩:=HW.maps n.toNat hi;rw [er] at g1;exact (Array.getElem?_eq_some_iff.1 g1).1
 have K:Kp (fun k=>k=r) W (W.putObj r (.map es' c')):=⟨rfl,rfl,rfl,by simp [World.putObj],fun k hk hn=>World.putObj_heap_other (fun e=>hn e)⟩
 have KK:Kp (own E L) w (W.putObj r (.map es' c')):=(kpB hW:Kp (own E L) w W).trans K (fun y e=>.inl (by subst e;exact .inr (.inr (.inr hmem))))
 have hb0:E.B≤w.heap.size:=by have:=H.base;omega
 have hlo:∀ k,own E L k→E.B≤k:=fun k hk=>(own_lo H hk).1;obtain ⟨es0,c0,m0,_⟩:=HW.maps n.toNat hi;rw [er] at m0;obtain ⟨n1,n2,n3⟩:=hb_no H;refine ⟨L,KK,same_own,?_⟩;refine ⟨HW.cells.next K (fun e=>n3 (by rw [e];exact hmem)),KK.sl mCls H.cls hb0 hlo,KK.sl mMe H.mes hb0 hlo,KK.sl mInt H.inp hb0 hlo,row_keep HW.out K (fun g hg e=>row_nomap HW.out hg (e ▸ m0)),?_,by simpa using H.many,fun i hi2=>?_,⟨H.base.1,Nat.lt_of_lt_of_le H.base.2.1 KK.size,H.base.2.2⟩,H.apart,H.nodup⟩
 ·have e1:ocells (h.objs.set n.toNat o) L.mbs=ocells h.objs L.mbs:=by
   have key:∀ (os:List Ob) (bs:List Nat) (i:Nat),(os.getD i nilOb).cls=o.cls∨os.length≤i→ocells (os.set i o) bs=ocells os bs:=by
    intro os
    induction os with
    | nil=>intro bs i _;rfl
    | cons x os ih =>
     intro bs i hx
     cases bs with
     | nil=>cases i <;> rfl
     | cons b bs =>
      cases i with
      | zero =>
       have:x.cls=o.cls:=by
        rcases hx with hx | hx
        ·exact hx
        ·simp at hx
       simp [ocells,ocell,this]
      | succ i =>
       simp only [List.set_cons_succ,ocells];rw [ih bs i (by simpa using hx)]
   exact key h.objs L.mbs n.toNat (.inl ho.symm)
  simp only [List.length_set,e1];exact row_keep HW.objs K (fun g hg e=>row_nomap HW.objs hg (e ▸ m0))
 ·by_cases e:i=n.toNat
  ·subst e;refine ⟨es',c',?_,?_⟩
   ·rw [er];exact World.putObj_heap_same hrW
   ·have:(h.objs.set n.toNat o).getD n.toNat nilOb=o:=by
     rw [List.getD_eq_getElem?_getD,List.getElem?_set_self (by omega)];rfl
    simp only [this];exact hm
  ·obtain ⟨es,c,g1,g2⟩:=HW.maps i hi2
   have hne:L.mbs[i]≠r:=fun q=>by
    have:L.mbs[i]=L.mbs[n.toNat]:=by rw [q,er]
    exact e ((List.getElem_inj H.nodup).1 this)
   refine ⟨es,c,?_,?_⟩
   ·rw [K.block _ (Array.getElem?_eq_some_iff.1 g1).1 hne];exact g1
   ·have:(h.objs.set n.toNat o).getD i nilOb=h.objs.getD i nilOb:=by
     rw [List.getD_eq_getElem?_getD,List.getD_eq_getElem?_getD,List.getElem?_set_ne (by omega)]
    simp only [this];exact g2
set_option maxRecDepth 100000 in
theorem putType (H:PH E w L h d) (hm:Hier.may E.f.classes=true) (r v:Vl) (c k:Nat) (hv:v.kind=3→v.n < h.objs.length) (hc:c < E.f.classes.length) (hk:k < (Hier.at' E.f.classes c).fields.length) (ht:ofT E.f.classes h v (ftype E.f.classes c k)=false) :
  Calls Tryz.prog 165 #[.pointer (some ⟨E.hb,0,none⟩),.agg #[.int .i64 r.kind,.int .i64 r.n],.int .i64 c,.int .i64 k,.agg #[.int .i64 v.kind,.int .i64 v.n]] w fun e w'=>e=pan (stopV 6)∧Lft E L d w w' h:=by
 have HH:=Lib.hid H;have hhb:=H.hbw;have hp:=Lib.hid ht;have b0:=H.c0;obtain ⟨ca,ccap,hvc,c1,c2,hel⟩:=id H.cls;obtain ⟨cb,co,rfl,hcb,he⟩:=hel c hc;obtain ⟨x,hx⟩:=at_of hc;rw [hx.out] at he;obtain ⟨_,_,fv,e2,hf⟩:=he;have hfx:Hier.at' E.f.classes c=x:=atOf hc hx.out;rw [hfx] at hk;obtain ⟨fa,fcap,rfl,c3,c4,hfe⟩:=hf;obtain ⟨fb,fo,rfl,hfb,hfe2⟩:=hfe k hk;obtain ⟨t,htt⟩:=at_of hk;rw [htt.out] at hfe2;obtain ⟨t1,t2,_,_⟩:=hfe2
 have hft:Hid (ftype E.f.classes c k=t):=by
  show _=_
  unfold ftype;rw [Int.toNat_natCast,Int.toNat_natCast,hfx,List.getD_eq_getElem?_getD,List.getElem?_eq_getElem hk,htt.out];rfl
 rw [hft.out] at hp;rw [hvc] at b0;have hci:(c:Int) < E.f.classes.length:=by omega
 have hki:(k:Int) < x.fields.length:=by omega
 have hbs:E.B≤w.heap.size:=by have:=H.base;omega
 have lcb:cb < w.heap.size:=by omega
 have lfb:fb < w.heap.size:=by omega
 have HV:=Lib.hid hv;clear H ht hvc hel hfx hfe hv
 go_enter Tryz.func165,Tryz.ntmps165
 go_wp2
 refine Drawn.hd (fun w'=>w'.cell? ⟨E.hb,0,none⟩=some (.slice (some ⟨cb,co,none⟩) E.f.classes.length ccap)∧w'.cell? ⟨cb,co+c*2+1,none⟩=some (.slice (some ⟨fb,fo,none⟩) x.fields.length fcap)∧w'.cell? ⟨fb,fo+k*2,none⟩=some (.int .i64 t.kind)∧w'.cell? ⟨fb,fo+k*2+1,none⟩=some (.int .i64 t.cls)∧w'.cell? ⟨w.heap.size+1,0,none⟩=some (.int .i64 v.kind)∧w'.cell? ⟨w.heap.size+1,1,none⟩=some (.int .i64 v.n)) (h:=fun hHeld=>?_);refine dT 0 12 ?_;refine dT 1 13 ?_;refine dT 2 14 ?_;refine dT 3 15 ?_;refine dT 4 16 ?_;refine dT 5 17 ?_;refine dT 6 18 ?_;refine dT 7 19 ?_;refine dT 8 20 ?_;refine dT 9 21 ?_;refine dT 10 22 ?_;refine dT 11 23 ?_;refine dT 12 24 ?_;refine dT 13 25 ?_;refine Drawn.cl 14 (fun K hK=>?_);go_simp
 go_at_call 98
 refine (of E L h d ⟨v.kind,v.n⟩ t _ (HH.out.below (by exact Rd.byB)) hm HV.out).mono ?_
 rw [hp.out];rintro e w1 ⟨rfl,hb1⟩;have kk:∀ (b o:Nat) (u:Value),World.cell? _ ⟨b,o,none⟩=some u→w1.cell? ⟨b,o,none⟩=some u:=fun b o u hc=>kept hb1 (cell_lt hc) hc;have y0:=kk E.hb 0 (.slice (some ⟨cb,co,none⟩) E.f.classes.length ccap) (by go_simp)
 have y1:=kk cb (co+c*2+1) (.slice (some ⟨fb,fo,none⟩) x.fields.length fcap) (by go_simp)
 have y2:=kk fb (fo+k*2) (.int .i64 t.kind) (by go_simp)
 have y3:=kk fb (fo+k*2+1) (.int .i64 t.cls) (by go_simp)
 have y4:=kk (w.heap.size+1) 0 (.int .i64 v.kind) (by go_simp)
 have y5:=kk (w.heap.size+1) 1 (.int .i64 v.n) (by go_simp)
 have y6:=kk w.heap.size 0 (.int .i64 r.kind) (by go_simp)
 have y7:=kk w.heap.size 1 (.int .i64 r.n) (by go_simp)
 have HB1:=Lib.hid (show Below w.heap.size w w1 from Below.trans (by exact Rd.byB) (hb1.mono (by simp <;> omega)))
 have hz1:w.heap.size+1+1≤w1.heap.size:=by have:=hb1.size;simpa using this
 clear kk hb1
 go_wp2_with fail
 refine Drawn.bk hK (hS:=by (try dsimp only);exact ⟨y0,y1,y2,y3,y4,y5⟩) (h:=fun hHeld=>?_)
 clear hK K;refine Drawn.cl 15 (fun K hK=>?_);go_simp;refine (mustF _).mono ?_;rintro e w2 ⟨rfl,rfl⟩;refine And.intro rfl ?_;exact ⟨rfl,Lft.of_below HH.out HB1.out⟩
set_option maxRecDepth 100000 in
theorem putStuck (H:PH E w L h d) (hm:Hier.may E.f.classes=true) (r v:Vl) (c k:Nat) (hv:v.kind=3→v.n < h.objs.length) (hc:c < E.f.classes.length) (hk:k < (Hier.at' E.f.classes c).fields.length) (ht:ofT E.f.classes h v (ftype E.f.classes c k)=true) (hr:r.kind=3→r.n < h.objs.length) (ho:ofT E.f.classes h r ⟨3,c⟩=false) :
  Calls Tryz.prog 165 #[.pointer (some ⟨E.hb,0,none⟩),.agg #[.int .i64 r.kind,.int .i64 r.n],.int .i64 c,.int .i64 k,.agg #[.int .i64 v.kind,.int .i64 v.n]] w fun e w'=>e=pan (stopV 6)∧Lft E L d w w' h:=by
 have HH:=Lib.hid H;have hhb:=H.hbw;have hp:=Lib.hid ht;have b0:=H.c0;obtain ⟨ca,ccap,hvc,c1,c2,hel⟩:=id H.cls;obtain ⟨cb,co,rfl,hcb,he⟩:=hel c hc;obtain ⟨x,hx⟩:=at_of hc;rw [hx.out] at he;obtain ⟨_,_,fv,e2,hf⟩:=he;have hfx:Hier.at' E.f.classes c=x:=atOf hc hx.out;rw [hfx] at hk;obtain ⟨fa,fcap,rfl,c3,c4,hfe⟩:=hf;obtain ⟨fb,fo,rfl,hfb,hfe2⟩:=hfe k hk;obtain ⟨t,htt⟩:=at_of hk;rw [htt.out] at hfe2;obtain ⟨t1,t2,_,_⟩:=hfe2
 have hft:Hid (ftype E.f.classes c k=t):=by
  show _=_
  unfold ftype;rw [Int.toNat_natCast,Int.toNat_natCast,hfx,List.getD_eq_getElem?_getD,List.getElem?_eq_getElem hk,htt.out];rfl
 rw [hft.out] at hp;rw [hvc] at b0;have hci:(c:Int) < E.f.classes.length:=by omega
 have hki:(k:Int) < x.fields.length:=by omega
 have hbs:E.B≤w.heap.size:=by have:=H.base;omega
 have lcb:cb < w.heap.size:=by omega
 have lfb:fb < w.heap.size:=by omega
 have HV:=Lib.hid hv;have HO:=Lib.hid ho;have HR:=Lib.hid hr;clear ho hr;clear H ht hvc hel hfx hfe hv
 go_enter Tryz.func165,Tryz.ntmps165
 go_wp2
 refine Drawn.hd (fun w'=>w'.cell? ⟨E.hb,0,none⟩=some (.slice (some ⟨cb,co,none⟩) E.f.classes.length ccap)∧w'.cell? ⟨cb,co+c*2+1,none⟩=some (.slice (some ⟨fb,fo,none⟩) x.fields.length fcap)∧w'.cell? ⟨fb,fo+k*2,none⟩=some (.int .i64 t.kind)∧w'.cell? ⟨fb,fo+k*2+1,none⟩=some (.int .i64 t.cls)∧w'.cell? ⟨w.heap.size+1,0,none⟩=some (.int .i64 v.kind)∧w'.cell? ⟨w.heap.size+1,1,none⟩=some (.int .i64 v.n)) (h:=fun hHeld=>?_);refine dT 0 12 ?_;refine dT 1 13 ?_;refine dT 2 14 ?_;refine dT 3 15 ?_;refine dT 4 16 ?_;refine dT 5 17 ?_;refine dT 6 18 ?_;refine dT 7 19 ?_;refine dT 8 20 ?_;refine dT 9 21 ?_;refine dT 10 22 ?_;refine dT 11 23 ?_;refine dT 12 24 ?_;refine dT 13 25 ?_;refine Drawn.cl 14 (fun K hK=>?_);go_simp
 go_at_call 98
 refine (of E L h d ⟨v.kind,v.n⟩ t _ (HH.out.below (by exact Rd.byB)) hm HV.out).mono ?_
 rw [hp.out];rintro e w1 ⟨rfl,hb1⟩;have kk:∀ (b o:Nat) (u:Value),World.cell? _ ⟨b,o,none⟩=some u→w1.cell? ⟨b,o,none⟩=some u:=fun b o u hc=>kept hb1 (cell_lt hc) hc;have y0:=kk E.hb 0 (.slice (some ⟨cb,co,none⟩) E.f.classes.length ccap) (by go_simp)
 have y1:=kk cb (co+c*2+1) (.slice (some ⟨fb,fo,none⟩) x.fields.length fcap) (by go_simp)
 have y2:=kk fb (fo+k*2) (.int .i64 t.kind) (by go_simp)
 have y3:=kk fb (fo+k*2+1) (.int .i64 t.cls) (by go_simp)
 have y4:=kk (w.heap.size+1) 0 (.int .i64 v.kind) (by go_simp)
 have y5:=kk (w.heap.size+1) 1 (.int .i64 v.n) (by go_simp)
 have y6:=kk w.heap.size 0 (.int .i64 r.kind) (by go_simp)
 have y7:=kk w.heap.size 1 (.int .i64 r.n) (by go_simp)
 have HB1:=Lib.hid (show Below w.heap.size w w1 from Below.trans (by exact Rd.byB) (hb1.mono (by simp <;> omega)))
 have hz1:w.heap.size+1+1≤w1.heap.size:=by have:=hb1.size;simpa using this
 clear kk hb1
 go_wp2_with fail
 refine Drawn.bk hK (hS:=by (try dsimp only);exact ⟨y0,y1,y2,y3,y4,y5⟩) (h:=fun hHeld=>?_)
 clear hK K;refine Drawn.cl 15 (fun K hK=>?_);go_simp;refine (mustT _).mono ?_;rintro e w2 ⟨rfl,rfl⟩
 go_wp2_with fail
 refine Drawn.bk hK (hS:=by (try dsimp only);exact ⟨y0,y1,y2,y3,y4,y5⟩) (h:=fun hHeld=>?_)
 clear hK K;refine dN ?_
 go_wp2_with (go_at_call 196;refine (fieldStuck (HH.out.below HB1.out) hm ⟨r.kind,r.n⟩ c k HR.out HO.out).mono ?_;rintro e w3 ⟨rfl,A⟩;have A2:=Lib.hid (Lft.before (w:=w) HB1.out A);clear A;unfold pan)
 refine And.intro rfl ?_;exact ⟨rfl,A2.out⟩
set_option maxRecDepth 100000 in
theorem putNull (H:PH E w L h d) (hm:Hier.may E.f.classes=true) (r v:Vl) (c k:Nat) (hv:v.kind=3→v.n < h.objs.length) (hc:c < E.f.classes.length) (hk:k < (Hier.at' E.f.classes c).fields.length) (ht:ofT E.f.classes h v (ftype E.f.classes c k)=true) (hr:r.kind=3→r.n < h.objs.length) (ho:ofT E.f.classes h r ⟨3,c⟩=true) (hn:r.n < 0) :
  Calls Tryz.prog 165 #[.pointer (some ⟨E.hb,0,none⟩),.agg #[.int .i64 r.kind,.int .i64 r.n],.int .i64 c,.int .i64 k,.agg #[.int .i64 v.kind,.int .i64 v.n]] w fun e w'=>e=pan (raiseV h)∧Lft E L d w w' (raiseH E.f.classes 1 h):=by
 have HH:=Lib.hid H;have hhb:=H.hbw;have hp:=Lib.hid ht;have b0:=H.c0;obtain ⟨ca,ccap,hvc,c1,c2,hel⟩:=id H.cls;obtain ⟨cb,co,rfl,hcb,he⟩:=hel c hc;obtain ⟨x,hx⟩:=at_of hc;rw [hx.out] at he;obtain ⟨_,_,fv,e2,hf⟩:=he;have hfx:Hier.at' E.f.classes c=x:=atOf hc hx.out;rw [hfx] at hk;obtain ⟨fa,fcap,rfl,c3,c4,hfe⟩:=hf;obtain ⟨fb,fo,rfl,hfb,hfe2⟩:=hfe k hk;obtain ⟨t,htt⟩:=at_of hk;rw [htt.out] at hfe2;obtain ⟨t1,t2,_,_⟩:=hfe2
 have hft:Hid (ftype E.f.classes c k=t):=by
  show _=_
  unfold ftype;rw [Int.toNat_natCast,Int.toNat_natCast,hfx,List.getD_eq_getElem?_getD,List.getElem?_eq_getElem hk,htt.out];rfl
 rw [hft.out] at hp;rw [hvc] at b0;have hci:(c:Int) < E.f.classes.length:=by omega
 have hki:(k:Int) < x.fields.length:=by omega
 have hbs:E.B≤w.heap.size:=by have:=H.base;omega
 have lcb:cb < w.heap.size:=by omega
 have lfb:fb < w.heap.size:=by omega
 have HV:=Lib.hid hv;have HO:=Lib.hid ho;have HR:=Lib.hid hr;clear ho hr;clear H ht hvc hel hfx hfe hv
 go_enter Tryz.func165,Tryz.ntmps165
 go_wp2
 refine Drawn.hd (fun w'=>w'.cell? ⟨E.hb,0,none⟩=some (.slice (some ⟨cb,co,none⟩) E.f.classes.length ccap)∧w'.cell? ⟨cb,co+c*2+1,none⟩=some (.slice (some ⟨fb,fo,none⟩) x.fields.length fcap)∧w'.cell? ⟨fb,fo+k*2,none⟩=some (.int .i64 t.kind)∧w'.cell? ⟨fb,fo+k*2+1,none⟩=some (.int .i64 t.cls)∧w'.cell? ⟨w.heap.size+1,0,none⟩=some (.int .i64 v.kind)∧w'.cell? ⟨w.heap.size+1,1,none⟩=some (.int .i64 v.n)) (h:=fun hHeld=>?_);refine dT 0 12 ?_;refine dT 1 13 ?_;refine dT 2 14 ?_;refine dT 3 15 ?_;refine dT 4 16 ?_;refine dT 5 17 ?_;refine dT 6 18 ?_;refine dT 7 19 ?_;refine dT 8 20 ?_;refine dT 9 21 ?_;refine dT 10 22 ?_;refine dT 11 23 ?_;refine dT 12 24 ?_;refine dT 13 25 ?_;refine Drawn.cl 14 (fun K hK=>?_);go_simp
 go_at_call 98
 refine (of E L h d ⟨v.kind,v.n⟩ t _ (HH.out.below (by exact Rd.byB)) hm HV.out).mono ?_
 rw [hp.out];rintro e w1 ⟨rfl,hb1⟩;have kk:∀ (b o:Nat) (u:Value),World.cell? _ ⟨b,o,none⟩=some u→w1.cell? ⟨b,o,none⟩=some u:=fun b o u hc=>kept hb1 (cell_lt hc) hc;have y0:=kk E.hb 0 (.slice (some ⟨cb,co,none⟩) E.f.classes.length ccap) (by go_simp)
 have y1:=kk cb (co+c*2+1) (.slice (some ⟨fb,fo,none⟩) x.fields.length fcap) (by go_simp)
 have y2:=kk fb (fo+k*2) (.int .i64 t.kind) (by go_simp)
 have y3:=kk fb (fo+k*2+1) (.int .i64 t.cls) (by go_simp)
 have y4:=kk (w.heap.size+1) 0 (.int .i64 v.kind) (by go_simp)
 have y5:=kk (w.heap.size+1) 1 (.int .i64 v.n) (by go_simp)
 have y6:=kk w.heap.size 0 (.int .i64 r.kind) (by go_simp)
 have y7:=kk w.heap.size 1 (.int .i64 r.n) (by go_simp)
 have HB1:=Lib.hid (show Below w.heap.size w w1 from Below.trans (by exact Rd.byB) (hb1.mono (by simp <;> omega)))
 have hz1:w.heap.size+1+1≤w1.heap.size:=by have:=hb1.size;simpa using this
 clear kk hb1
 go_wp2_with fail
 refine Drawn.bk hK (hS:=by (try dsimp only);exact ⟨y0,y1,y2,y3,y4,y5⟩) (h:=fun hHeld=>?_)
 clear hK K;refine Drawn.cl 15 (fun K hK=>?_);go_simp;refine (mustT _).mono ?_;rintro e w2 ⟨rfl,rfl⟩
 go_wp2_with fail
 refine Drawn.bk hK (hS:=by (try dsimp only);exact ⟨y0,y1,y2,y3,y4,y5⟩) (h:=fun hHeld=>?_)
 clear hK K;refine dN ?_
 go_wp2_with (go_at_call 196;refine (fieldNull (HH.out.below HB1.out) hm ⟨r.kind,r.n⟩ c k HR.out HO.out hn).mono ?_;rintro e w3 ⟨rfl,A⟩;have A2:=Lib.hid (Lft.before (w:=w) HB1.out A);clear A;unfold pan)
 refine And.intro rfl ?_;exact ⟨rfl,A2.out⟩
set_option maxRecDepth 100000 in
theorem putOk (H:PH E w L h d) (hm:Hier.may E.f.classes=true) (r v:Vl) (c k:Nat) (hv:v.kind=3→v.n < h.objs.length) (hc:c < E.f.classes.length) (hk:k < (Hier.at' E.f.classes c).fields.length) (ht:ofT E.f.classes h v (ftype E.f.classes c k)=true) (hr3:r.kind=3) (hr0:0≤r.n) (hr1:r.n < h.objs.length) (ho:ofT E.f.classes h r ⟨3,c⟩=true) (hkey:((c:Int),(k:Int))∈(obj h r.n).held.map (·.1)) :
  Calls Tryz.prog 165 #[.pointer (some ⟨E.hb,0,none⟩),.agg #[.int .i64 r.kind,.int .i64 r.n],.int .i64 c,.int .i64 k,.agg #[.int .i64 v.kind,.int .i64 v.n]] w fun e w'=>e=.returned (.tuple #[])∧Lft E L d w w' (putH h r.n (c,k) v):=by
 have HH:=Lib.hid H;have hhb:=H.hbw;have hp:=Lib.hid ht;have b0:=H.c0;obtain ⟨ca,ccap,hvc,c1,c2,hel⟩:=id H.cls;obtain ⟨cb,co,rfl,hcb,he⟩:=hel c hc;obtain ⟨x,hx⟩:=at_of hc;rw [hx.out] at he;obtain ⟨_,_,fv,e2,hf⟩:=he;have hfx:Hier.at' E.f.classes c=x:=atOf hc hx.out;rw [hfx] at hk;obtain ⟨fa,fcap,rfl,c3,c4,hfe⟩:=hf;obtain ⟨fb,fo,rfl,hfb,hfe2⟩:=hfe k hk;obtain ⟨t,htt⟩:=at_of hk;rw [htt.out] at hfe2;obtain ⟨t1,t2,_,_⟩:=hfe2
 have hft:Hid (ftype E.f.classes c k=t):=by
  show _=_
  unfold ftype;rw [Int.toNat_natCast,Int.toNat_natCast,hfx,List.getD_eq_getElem?_getD,List.getElem?_eq_getElem hk,htt.out];rfl
 rw [hft.out] at hp;rw [hvc] at b0;have hci:(c:Int) < E.f.classes.length:=by omega
 have hki:(k:Int) < x.fields.length:=by omega
 have hbs:E.B≤w.heap.size:=by have:=H.base;omega
 have lcb:cb < w.heap.size:=by omega
 have lfb:fb < w.heap.size:=by omega
 have HV:=Lib.hid hv;obtain ⟨kr,n⟩:=r;simp only at hr3 hr0 hr1 hkey;subst hr3;obtain ⟨g,cap,hvb,d1,d2,hg,hgne,o0,o1⟩:=H.ob hr0 hr1;obtain ⟨mr,es,cc,pm,hrr,hrw,hrne,m1,m2,m3,_⟩:=H.mp hr0 hr1;rw [hrr] at o1;obtain ⟨es',c',pm',u1,u2,u3⟩:=upd_run mr cc m2 ((c:Int),(k:Int)) v;have hMI:=Lib.hid (mapIs_become u2 u3 m3 hkey);have U1:Hid (∀ w2:World,w2.heap[mr]? = some (.map es cc)→(Instr.mapUpdate 91 (.map (some mr)) (.agg #[.int .i64 c,.int .i64 k]) (.agg #[.int .i64 v.kind,.int .i64 v.n])).run Tryz.prog w2=.ok () (w2.putObj mr (.map es' c'))):=u1;have HO:=Lib.hid ho;have HVB:=Lib.hid hvb;have HRR:=Lib.hid hrr;clear ho hvb u1 u2 u3 m2 m3 hkey hrr;clear H ht hvc hel hfx hfe hv
 go_enter Tryz.func165,Tryz.ntmps165
 go_wp2
 refine Drawn.hd (fun w'=>w'.cell? ⟨E.hb,0,none⟩=some (.slice (some ⟨cb,co,none⟩) E.f.classes.length ccap)∧w'.cell? ⟨cb,co+c*2+1,none⟩=some (.slice (some ⟨fb,fo,none⟩) x.fields.length fcap)∧w'.cell? ⟨fb,fo+k*2,none⟩=some (.int .i64 t.kind)∧w'.cell? ⟨fb,fo+k*2+1,none⟩=some (.int .i64 t.cls)∧w'.cell? ⟨w.heap.size+1,0,none⟩=some (.int .i64 v.kind)∧w'.cell? ⟨w.heap.size+1,1,none⟩=some (.int .i64 v.n)) (h:=fun hHeld=>?_);refine dT 0 12 ?_;refine dT 1 13 ?_;refine dT 2 14 ?_;refine dT 3 15 ?_;refine dT 4 16 ?_;refine dT 5 17 ?_;refine dT 6 18 ?_;refine dT 7 19 ?_;refine dT 8 20 ?_;refine dT 9 21 ?_;refine dT 10 22 ?_;refine dT 11 23 ?_;refine dT 12 24 ?_;refine dT 13 25 ?_;refine Drawn.cl 14 (fun K hK=>?_);go_simp
 go_at_call 98
 refine (of E L h d ⟨v.kind,v.n⟩ t _ (HH.out.below (by exact Rd.byB)) hm HV.out).mono ?_
 rw [hp.out];rintro e w1 ⟨rfl,hb1⟩;have kk:∀ (b o:Nat) (u:Value),World.cell? _ ⟨b,o,none⟩=some u→w1.cell? ⟨b,o,none⟩=some u:=fun b o u hc=>kept hb1 (cell_lt hc) hc;have y0:=kk E.hb 0 (.slice (some ⟨cb,co,none⟩) E.f.classes.length ccap) (by go_simp)
 have y1:=kk cb (co+c*2+1) (.slice (some ⟨fb,fo,none⟩) x.fields.length fcap) (by go_simp)
 have y2:=kk fb (fo+k*2) (.int .i64 t.kind) (by go_simp)
 have y3:=kk fb (fo+k*2+1) (.int .i64 t.cls) (by go_simp)
 have y4:=kk (w.heap.size+1) 0 (.int .i64 v.kind) (by go_simp)
 have y5:=kk (w.heap.size+1) 1 (.int .i64 v.n) (by go_simp)
 have y6:=kk w.heap.size 0 (.int .i64 3) (by go_simp)
 have y7:=kk w.heap.size 1 (.int .i64 n) (by go_simp)
 have HB1:=Lib.hid (show Below w.heap.size w w1 from Below.trans (by exact Rd.byB) (hb1.mono (by simp <;> omega)))
 have hz1:w.heap.size+1+1≤w1.heap.size:=by have:=hb1.size;simpa using this
 clear kk hb1
 go_wp2_with fail
 refine Drawn.bk hK (hS:=by (try dsimp only);exact ⟨y0,y1,y2,y3,y4,y5⟩) (h:=fun hHeld=>?_)
 clear hK K;refine Drawn.cl 15 (fun K hK=>?_);go_simp;refine (mustT _).mono ?_;rintro e w2 ⟨rfl,rfl⟩
 go_wp2_with fail
 refine Drawn.bk hK (hS:=by (try dsimp only);exact ⟨y0,y1,y2,y3,y4,y5⟩) (h:=fun hHeld=>?_)
 clear hK K;refine dN ?_;have hb:=HB1.out;have y8:w1.cell? ⟨g,n.toNat*2+1,none⟩=some (.map (some mr)):=kept hb hg o1
 go_wp2_with (go_at_call 196;refine (fieldOk (HH.out.below HB1.out) hm n c k hr1 HO.out hr0 HVB.out d1).mono ?_;rintro e w3 ⟨rfl,hb3⟩;have z8:=kept hb3 (cell_lt y8) y8;have z4:=kept hb3 (cell_lt y4) y4;have z5:=kept hb3 (cell_lt y5) y5;have HB3:=Lib.hid (hb.trans (hb3.mono hb.size));have hz3:w.heap.size+1+1≤w3.heap.size:=Nat.le_trans hz1 hb3.size;clear hb3)
 have m1':w3.heap[mr]? = some (.map es cc):=(HB3.out.block mr hrw).trans m1;have yu:=U1.out (w3.alloc (.cells #[.int .i64 c,.int .i64 k] 263)).drew ((Below.heap_alloc _ _ _ (by omega)).trans m1')
 have hsz2:w.heap.size+1 < w3.heap.size:=by omega
 have hsz3:g < w3.heap.size:=cell_lt z8;have hsz4:w.heap.size+1 < w3.heap.size+1:=by omega
 have hsz5:g < w3.heap.size+1:=by omega
 have hb3:=HB3.out;clear y0 y1 y2 y3 y4 y5 y6 y7 y8 hb o0 o1 b0 e2 t1 t2
 go_region
 all_goals
  go_end0
  exact ⟨rfl,PH.setMap (W:=(w3.alloc (.cells #[.int .i64 c,.int .i64 k] 263)).drew) (o:=⟨(obj h n).cls,become (obj h n).held ((c:Int),(k:Int)) v⟩) HH.out (by exact Rd.byB) hr0 hr1 rfl HRR.out hMI.out⟩
theorem putP (H:PH E w L h d) (hm:Hier.may E.f.classes=true) (HO:HpOk E.f.classes E.input E.fuel h) (r v:Vl) (c k:Int) (hr:VlOk h.objs.length r) (hv:VlOk h.objs.length v) (hc:0≤c∧c < E.f.classes.length) (hk:0≤k∧k < ((Hier.at' E.f.classes c.toNat).fields.length:Int)) :
  Calls Tryz.prog 165 #[.pointer (some ⟨E.hb,0,none⟩),.agg #[.int .i64 r.kind,.int .i64 r.n],.int .i64 c,.int .i64 k,.agg #[.int .i64 v.kind,.int .i64 v.n]] w (PanR E L d w (fun _=>.tuple #[]) (Run.put E.f.classes r c k v (ftype E.f.classes c k) h)):=by
 obtain ⟨c,rfl⟩:=Int.eq_ofNat_of_zero_le hc.1;obtain ⟨k,rfl⟩:=Int.eq_ofNat_of_zero_le hk.1;have hc1:c < E.f.classes.length:=by omega
 have hk1:k < (Hier.at' E.f.classes c).fields.length:=by have:=hk.2;rw [Int.toNat_natCast] at this;omega
 have hv3:v.kind=3→v.n < h.objs.length:=fun e=>(hv.2.2.2 e).2;have hr3:r.kind=3→r.n < h.objs.length:=fun e=>(hr.2.2.2 e).2
 by_cases ht:ofT E.f.classes h v (ftype E.f.classes c k)=true
 ·by_cases ho:ofT E.f.classes h r ⟨3,c⟩=true
  ·obtain ⟨h3,h4⟩:=of_ref ho
   by_cases hn:r.n < 0
   ·rw [put_raise ht ho hn];refine (putNull H hm r v c k hv3 hc1 hk1 ht hr3 ho hn).mono ?_;rintro e w' ⟨rfl,A⟩;exact panR_raise A
   ·rw [put_okU ht ho hn];have hvn:=hr.2.2.2 h3;have hO:=HO.obs _ (obj_mem (h:=h) (n:=r.n) (by omega) (by omega))
    have hi:Hier.is E.f.classes (obj h r.n).cls c=true:=by
                                                                     rcases h4 with h4 | h4;· omega
                                                                     · exact h4
    have hmem:=fresh_has hc hi hk;rw [← hO.keys] at hmem;refine (putOk H hm r v c k hv3 hc1 hk1 ht h3 (by omega) hvn.2 ho hmem).mono ?_
    rintro e w' ⟨rfl,A⟩;exact ⟨rfl,A⟩
  ·have ho2:ofT E.f.classes h r ⟨3,c⟩=false:=by simpa using ho
   rw [put_stuck ht ho2];refine (putStuck H hm r v c k hv3 hc1 hk1 ht hr3 ho2).mono ?_;rintro e w' ⟨rfl,A⟩;exact ⟨rfl,A⟩
 ·have ht2:ofT E.f.classes h v (ftype E.f.classes c k)=false:=by simpa using ht
  rw [put_type ht2];refine (putType H hm r v c k hv3 hc1 hk1 ht2).mono ?_;rintro e w' ⟨rfl,A⟩;exact ⟨rfl,A⟩
end
end Hpw
namespace Hpw
open Num Rd D Run Mem HierW
section
variable {E:Ev}{w w' wr W w2:World}{L L':Lay}{h h':Hp}{d:Nat}
def unitV (_:Unit):Value:=.tuple #[]
set_option maxRecDepth 100000 in
theorem castP (H:PH E w L h d) (hm:Hier.may E.f.classes=true) (v:Vl) (c:Int) (hv:v.kind=3→v.n < h.objs.length) :
  Calls Tryz.prog 166 #[.pointer (some ⟨E.hb,0,none⟩),.agg #[.int .i64 v.kind,.int .i64 v.n],.int .i64 c] w (PanR E L d w unitV (Run.cast E.f.classes v c h)):=by
 have HH:=Lib.hid H;obtain ⟨kd,n⟩:=v
 by_cases q:kd=3
 ·subst q;have hv1:n < h.objs.length:=hv rfl
  by_cases ho:ofT E.f.classes h ⟨3,n⟩ ⟨3,c⟩=true
  ·have hr:Hid (Run.cast E.f.classes ⟨3,n⟩ c h=.ok () h):=by show _=_;unfold Run.cast;rw [if_neg (by simp),if_neg (by rw [ho];simp)]
   rw [hr.out];have HO:=Lib.hid ho;clear H ho hv
   go_enter Tryz.func166,Tryz.ntmps166
   go_wp2_with (first | (go_at_call 98;refine (of E L h d ⟨3,n⟩ ⟨3,c⟩ _ (HH.out.below (by exact Rd.byB)) hm (fun _=>hv1)).mono ?_;rw [HO.out];rintro e w1 ⟨rfl,hb1⟩;have HB1:=Lib.hid (show Below w.heap.size w w1 from Below.trans (by exact Rd.byB) (hb1.mono (by simp <;> omega)));clear hb1) | (go_at_call 97;refine (mustT _).mono ?_;rintro e w2 ⟨rfl,rfl⟩))
   go_end0
   exact ⟨rfl,Lft.of_below HH.out HB1.out⟩
  ·have ho2:ofT E.f.classes h ⟨3,n⟩ ⟨3,c⟩=false:=by simpa using ho
   have hr:Hid (Run.cast E.f.classes ⟨3,n⟩ c h=raise E.f.classes 3 h):=by show _=_;unfold Run.cast;rw [if_neg (by simp),if_pos ho2]
   rw [hr.out];have HO:=Lib.hid ho2;clear H ho hv ho2
   go_enter Tryz.func166,Tryz.ntmps166
   go_wp2_with (first | (go_at_call 98;refine (of E L h d ⟨3,n⟩ ⟨3,c⟩ _ (HH.out.below (by exact Rd.byB)) hm (fun _=>hv1)).mono ?_;rw [HO.out];rintro e w1 ⟨rfl,hb1⟩;have HB1:=Lib.hid (show Below w.heap.size w w1 from Below.trans (by exact Rd.byB) (hb1.mono (by simp <;> omega)));clear hb1) | (go_at_call 97;refine (mustT _).mono ?_;rintro e w2 ⟨rfl,rfl⟩) | (go_at_call 155;refine (raiseP (HH.out.below HB1.out) hm 3).mono ?_;rintro e w2 ⟨rfl,A⟩;replace A:=Lib.hid A))
   refine And.intro rfl ?_;exact panR_raise (Lft.before HB1.out A.out)
 ·have hr:Hid (Run.cast E.f.classes ⟨kd,n⟩ c h=.stop 6 h):=by show _=_;unfold Run.cast;rw [if_pos q]
  rw [hr.out];have qb:(kd==3)=false:=by simpa using q
  clear H q hv
  go_enter Tryz.func166,Tryz.ntmps166
  go_wp2_with (go_at_call 97;refine (mustF _).mono ?_;rintro e w2 ⟨rfl,rfl⟩)
  refine And.intro rfl ?_;exact ⟨rfl,Lft.of_below HH.out Rd.byB⟩
set_option maxRecDepth 100000 in
theorem isP (H:PH E w L h d) (hm:Hier.may E.f.classes=true) (v:Vl) (c:Int) (hv:v.kind=3→v.n < h.objs.length) :
  Calls Tryz.prog 167 #[.pointer (some ⟨E.hb,0,none⟩),.agg #[.int .i64 v.kind,.int .i64 v.n],.int .i64 c] w (PanR E L d w vval (Run.isV E.f.classes v c h)):=by
 have HH:=Lib.hid H;have hhb:=H.hbw;obtain ⟨kd,n⟩:=v
 by_cases q:kd=3
 ·subst q;have hv1:n < h.objs.length:=hv rfl
  by_cases hn:n < 0
  ·have hr:Hid (Run.isV E.f.classes ⟨3,n⟩ c h=.ok ⟨1,0⟩ h):=by show _=_;unfold Run.isV;rw [if_neg (by simp)];simp only;rw [if_neg (fun h=>by omega)]
   rw [hr.out];have hd1:decide (0≤n)=false:=by simp;omega
   clear H hv hn
   go_enter Tryz.func167,Tryz.ntmps167
   go_wp2_with (go_at_call 97;refine (mustT _).mono ?_;rintro e w2 ⟨rfl,rfl⟩)
   go_quiet (fail)
   go_wp2
   refine bodyPost_ret (v:=.agg #[.int .i64 1,.int .i64 0]) (by simp [results,Tryz.results167,go_sem] <;> go_simp) rfl ?_
   exact ⟨rfl,Lft.of_below HH.out Rd.byB⟩
  ·have hn0:0≤n:=by omega
   obtain ⟨g,cap,hvb,c1,c2,hg,hgne,o0,o1⟩:=H.ob hn0 hv1;have b0:=H.c0;have b8:=H.c8;rw [hvb] at b8;obtain ⟨ca,ccap,hvc,_⟩:=id H.cls;have hC:Cs w E.vc E.f.classes:=H.cls.mono mCls (Below.refl _ _) (Nat.le_of_lt (Nat.lt_of_le_of_lt H.base.1 hhb));have HC:=Lib.hid hC;have hwf:=Lib.hid (Hier.wf_of_may hm);rw [hvc] at b0 HC;have hlt2:n.toNat < h.objs.length:=by omega
   have hd1:decide (0≤n)=true:=by simp;omega
   obtain ⟨p,hp⟩:∃ p,Hid (Hier.is E.f.classes (obj h n).cls c=p):=⟨_,Lib.hid rfl⟩;obtain ⟨pv,hpv⟩:∃ pv:Int,Hid ((if p=true then 1 else 0)=pv):=⟨_,Lib.hid rfl⟩;have hr:Hid (Run.isV E.f.classes ⟨3,n⟩ c h=.ok ⟨1,pv⟩ h):=by show _=_;rw [← hpv.out];unfold Run.isV;rw [if_neg (by simp)];simp only;rw [hp.out];simp [hn0]
   rw [hr.out];clear H hv hn hvc hvb hC
   go_enter Tryz.func167,Tryz.ntmps167
   go_wp2_with (go_at_call 97;refine (mustT _).mono ?_;rintro e w2 ⟨rfl,rfl⟩)
   refine Drawn.hd (fun w'=>w'.cell? ⟨E.hb,0,none⟩=some (.slice ca E.f.classes.length ccap)∧w'.cell? ⟨E.hb,8,none⟩=some (.slice (some ⟨g,0,none⟩) h.objs.length cap)∧w'.cell? ⟨g,n.toNat*2,none⟩=some (.int .i64 (obj h n).cls)∧w'.cell? ⟨w.heap.size,1,none⟩=some (.int .i64 n)) (h:=fun hHeld=>?_);refine dT 0 11 ?_;refine dT 1 12 ?_;refine dT 2 13 ?_;refine dT 3 14 ?_;refine dT 4 15 ?_;refine dT 5 16 ?_;refine dT 6 17 ?_;refine dT 7 18 ?_;refine dT 8 19 ?_;refine dT 9 20 ?_;refine dT 10 21 ?_;refine dT 11 22 ?_;refine dT 12 23 ?_;refine dT 13 24 ?_;refine dT 14 25 ?_;refine dT 15 26 ?_;refine dT 16 27 ?_;refine dT 17 28 ?_;refine dT 18 29 ?_;refine Drawn.cl 19 (fun K hK=>?_);go_simp
   go_at_call 152
   refine (UpW.is _ E.f.classes (obj h n).cls c _ (HC.out.next (by exact Rd.byB)) hwf.out).mono ?_
   rw [hp.out];rintro e w1 ⟨rfl,hb1⟩;have kk:∀ (b o:Nat) (u:Value),World.cell? _ ⟨b,o,none⟩=some u→w1.cell? ⟨b,o,none⟩=some u:=fun b o u hc=>kept hb1 (cell_lt hc) hc;have kf:∀ (b o:Nat) (x:Bool),b < (World.heap _).size→World.frozen? _ ⟨b,o,none⟩=x→w1.frozen? ⟨b,o,none⟩=x:=fun b o x hl hc=>frz_kept hb1 hl hc;have y0:=kk E.hb 0 (.slice ca E.f.classes.length ccap) (by go_simp)
   have y1:=kk E.hb 8 (.slice (some ⟨g,0,none⟩) h.objs.length cap) (by go_simp)
   have y2:=kk g (n.toNat*2) (.int .i64 (obj h n).cls) (by go_simp)
   have y4:=kk w.heap.size 1 (.int .i64 n) (by go_simp)
   have y5:=kk (w.heap.size+1) 0 (.int .i64 0) (by go_simp)
   have y6:=kk (w.heap.size+1) 1 (.int .i64 0) (by go_simp)
   have y7:=kf (w.heap.size+1) 0 false (by simp) (by go_simp)
   have y8:=kf (w.heap.size+1) 1 false (by simp) (by go_simp)
   have HB1:=Lib.hid (show Below w.heap.size w w1 from Below.trans (by exact Rd.byB) (hb1.mono (by simp <;> omega)))
   clear kk kf hb1
   go_wp2_with fail
   refine Drawn.bk hK (hS:=by (try dsimp only);exact ⟨y0,y1,y2,y4⟩) (h:=fun hHeld=>?_)
   clear hK K;refine dT 20 31 ?_;refine dN ?_
   go_wp2_with fail
   ·refine bodyPost_ret (v:=.agg #[.int .i64 1,.int .i64 1]) (by simp [results,Tryz.results167,go_sem] <;> go_simp) rfl ?_
    have hb:=HB1.out;have e1:=hpv.out;rw [if_pos (by assumption)] at e1
    subst e1;exact ⟨rfl,Lft.of_below HH.out Rd.byB⟩
   ·refine bodyPost_ret (v:=.agg #[.int .i64 1,.int .i64 0]) (by simp [results,Tryz.results167,go_sem] <;> go_simp) rfl ?_
    have hb:=HB1.out;have e1:=hpv.out;rw [if_neg (by first | assumption | simp_all)] at e1
    subst e1;exact ⟨rfl,Lft.of_below HH.out Rd.byB⟩
 ·have hr:Hid (Run.isV E.f.classes ⟨kd,n⟩ c h=.stop 6 h):=by show _=_;unfold Run.isV;rw [if_pos q]
  rw [hr.out];have qb:(kd==3)=false:=by simpa using q
  clear H q hv
  go_enter Tryz.func167,Tryz.ntmps167
  go_wp2_with (go_at_call 97;refine (mustF _).mono ?_;rintro e w2 ⟨rfl,rfl⟩)
  refine And.intro rfl ?_;exact ⟨rfl,Lft.of_below HH.out Rd.byB⟩
set_option maxRecDepth 100000 in
theorem reckonI (H:PH E w L h d) (hm:Hier.may E.f.classes=true) (a b:Vl) (op:Int) (hok:Ok a.n) :
  Calls Tryz.prog 192 #[.pointer (some ⟨E.hb,0,none⟩),.agg #[.int .i64 a.kind,.int .i64 a.n],.agg #[.int .i64 b.kind,.int .i64 b.n],.int .i64 1,.int .i64 op,.func (.func 159) #[] #[]] w (PanR E L d w vval (Run.reckon E.f.classes a b 1 op h)):=by
 have HH:=Lib.hid H;obtain ⟨ak,an⟩:=a;obtain ⟨bk,bn⟩:=b
 by_cases q1:ak=1
 ·by_cases q2:bk=1
  ·subst q1 q2;obtain ⟨⟨x,o⟩,hx⟩:∃ x,Hid (Num.int op an bn=x):=⟨_,Lib.hid rfl⟩;have hno:Hid (numOf 1 op an bn=(x,o)):=by show _=_;unfold numOf;first | rw [if_pos rfl,hx.out] | rw [if_neg (by decide),hx.out]
   cases o
   ·have hr:Hid (Run.reckon E.f.classes ⟨1,an⟩ ⟨1,bn⟩ 1 op h=raise E.f.classes 2 h):=by show _=_;unfold Run.reckon;rw [if_neg (by simp)];simp only;rw [hno.out];simp
    rw [hr.out];clear H
    go_enter Tryz.func192,Tryz.ntmps192
    go_wp2_with (first | (go_at_call 97;refine (mustT _).mono ?_;rintro e w2 ⟨rfl,rfl⟩) | (go_at_call 159;refine (NumW.int op an bn _).mono ?_;rw [hx.out];rintro e w2 ⟨rfl,rfl⟩) | (go_at_call 155;refine (raiseP (HH.out.below (by exact Rd.byB)) hm 2).mono ?_;rintro e w2 ⟨rfl,A⟩;replace A:=Lib.hid (Lft.before (w:=w) (by exact Rd.byB) A)))
    refine And.intro rfl ?_;exact panR_raise A.out
   ·have hr:Hid (Run.reckon E.f.classes ⟨1,an⟩ ⟨1,bn⟩ 1 op h=.ok ⟨1,x⟩ h):=by show _=_;unfold Run.reckon;rw [if_neg (by simp)];simp only;rw [hno.out];simp
    rw [hr.out];clear H
    go_enter Tryz.func192,Tryz.ntmps192
    go_wp2_with (first | (go_at_call 97;refine (mustT _).mono ?_;rintro e w2 ⟨rfl,rfl⟩) | (go_at_call 159;refine (NumW.int op an bn _).mono ?_;rw [hx.out];rintro e w2 ⟨rfl,rfl⟩))
    refine bodyPost_ret (v:=.agg #[.int .i64 1,.int .i64 x]) (by simp [results,Tryz.results192,go_sem] <;> go_simp) rfl ?_
    exact ⟨rfl,Lft.of_below HH.out Rd.byB⟩
  ·have hr:Hid (Run.reckon E.f.classes ⟨ak,an⟩ ⟨bk,bn⟩ 1 op h=.stop 6 h):=by show _=_;unfold Run.reckon;rw [if_pos (.inr q2)]
   rw [hr.out];subst q1;have qb:(bk==1)=false:=by simpa using q2
   clear H q2
   go_enter Tryz.func192,Tryz.ntmps192
   go_wp2_with (go_at_call 97;refine (mustF _).mono ?_;rintro e w2 ⟨rfl,rfl⟩)
   refine And.intro rfl ?_;exact ⟨rfl,Lft.of_below HH.out Rd.byB⟩
 ·have hr:Hid (Run.reckon E.f.classes ⟨ak,an⟩ ⟨bk,bn⟩ 1 op h=.stop 6 h):=by show _=_;unfold Run.reckon;rw [if_pos (.inl q1)]
  rw [hr.out];have qb:(ak==1)=false:=by simpa using q1
  clear H q1
  go_enter Tryz.func192,Tryz.ntmps192
  go_wp2_with (go_at_call 97;refine (mustF _).mono ?_;rintro e w2 ⟨rfl,rfl⟩)
  refine And.intro rfl ?_;exact ⟨rfl,Lft.of_below HH.out Rd.byB⟩
set_option maxRecDepth 100000 in
theorem reckonL (H:PH E w L h d) (hm:Hier.may E.f.classes=true) (a b:Vl) (op:Int) (hok:Ok a.n) :
  Calls Tryz.prog 192 #[.pointer (some ⟨E.hb,0,none⟩),.agg #[.int .i64 a.kind,.int .i64 a.n],.agg #[.int .i64 b.kind,.int .i64 b.n],.int .i64 2,.int .i64 op,.func (.func 160) #[] #[]] w (PanR E L d w vval (Run.reckon E.f.classes a b 2 op h)):=by
 have HH:=Lib.hid H;obtain ⟨ak,an⟩:=a;obtain ⟨bk,bn⟩:=b
 by_cases q1:ak=2
 ·by_cases q2:bk=2
  ·subst q1 q2;obtain ⟨⟨x,o⟩,hx⟩:∃ x,Hid (Num.long op an bn=x):=⟨_,Lib.hid rfl⟩;have hno:Hid (numOf 2 op an bn=(x,o)):=by show _=_;unfold numOf;first | rw [if_pos rfl,hx.out] | rw [if_neg (by decide),hx.out]
   cases o
   ·have hr:Hid (Run.reckon E.f.classes ⟨2,an⟩ ⟨2,bn⟩ 2 op h=raise E.f.classes 2 h):=by show _=_;unfold Run.reckon;rw [if_neg (by simp)];simp only;rw [hno.out];simp
    rw [hr.out];clear H
    go_enter Tryz.func192,Tryz.ntmps192
    go_wp2_with (first | (go_at_call 97;refine (mustT _).mono ?_;rintro e w2 ⟨rfl,rfl⟩) | (go_at_call 160;refine (NumW.long op an bn _ hok).mono ?_;rw [hx.out];rintro e w2 ⟨rfl,rfl⟩) | (go_at_call 155;refine (raiseP (HH.out.below (by exact Rd.byB)) hm 2).mono ?_;rintro e w2 ⟨rfl,A⟩;replace A:=Lib.hid (Lft.before (w:=w) (by exact Rd.byB) A)))
    refine And.intro rfl ?_;exact panR_raise A.out
   ·have hr:Hid (Run.reckon E.f.classes ⟨2,an⟩ ⟨2,bn⟩ 2 op h=.ok ⟨2,x⟩ h):=by show _=_;unfold Run.reckon;rw [if_neg (by simp)];simp only;rw [hno.out];simp
    rw [hr.out];clear H
    go_enter Tryz.func192,Tryz.ntmps192
    go_wp2_with (first | (go_at_call 97;refine (mustT _).mono ?_;rintro e w2 ⟨rfl,rfl⟩) | (go_at_call 160;refine (NumW.long op an bn _ hok).mono ?_;rw [hx.out];rintro e w2 ⟨rfl,rfl⟩))
    refine bodyPost_ret (v:=.agg #[.int .i64 2,.int .i64 x]) (by simp [results,Tryz.results192,go_sem] <;> go_simp) rfl ?_
    exact ⟨rfl,Lft.of_below HH.out Rd.byB⟩
  ·have hr:Hid (Run.reckon E.f.classes ⟨ak,an⟩ ⟨bk,bn⟩ 2 op h=.stop 6 h):=by show _=_;unfold Run.reckon;rw [if_pos (.inr q2)]
   rw [hr.out];subst q1;have qb:(bk==2)=false:=by simpa using q2
   clear H q2
   go_enter Tryz.func192,Tryz.ntmps192
   go_wp2_with (go_at_call 97;refine (mustF _).mono ?_;rintro e w2 ⟨rfl,rfl⟩)
   refine And.intro rfl ?_;exact ⟨rfl,Lft.of_below HH.out Rd.byB⟩
 ·have hr:Hid (Run.reckon E.f.classes ⟨ak,an⟩ ⟨bk,bn⟩ 2 op h=.stop 6 h):=by show _=_;unfold Run.reckon;rw [if_pos (.inl q1)]
  rw [hr.out];have qb:(ak==2)=false:=by simpa using q1
  clear H q1
  go_enter Tryz.func192,Tryz.ntmps192
  go_wp2_with (go_at_call 97;refine (mustF _).mono ?_;rintro e w2 ⟨rfl,rfl⟩)
  refine And.intro rfl ?_;exact ⟨rfl,Lft.of_below HH.out Rd.byB⟩
end
end Hpw
end Go.Proofs.YtncmhenfgbcihabGreat
