/- Parts of the proof: Pc, Pd, Pe, Pg, Out, Ouk, Gp, Qb, Qc, Pf. -/
import Derived.Test.YtncmhenfgbcihabGreatG10
import Derived.RegionTactic
import Derived.ChangeAlike
import Derived.Test.YtncmhenfgbcihabGreatG02
import Derived.Test.YtncmhenfgbcihabGreatG01
import Derived.Test.YtncmhenfgbcihabGreatG05
import Derived.Test.YtncmhenfgbcihabGreatG03
import Derived.Defers
import Derived.Recover
import Derived.Laws.Pointers
import Derived.Laws.EntriesVeiled
set_option linter.unusedSimpArgs false
set_option linter.unusedVariables false
set_option maxHeartbeats 8000000
namespace Go.Proofs.YtncmhenfgbcihabGreat
open Go.RowKit
namespace Hpw
open Num Rd D Run Mem HierW
section
variable {E:Ev}{w w' wr W w2:World}{L L':Lay}{h h':Hp}{d:Nat}{α:Type}{V:α→Value}
def PanR (E:Ev) (L:Lay) (d:Nat) (w:World) (V:α→Value) (r:Res α) (e:Ending) (w':World):Prop:=match r with
 | .ok a h=>e=.returned (V a)∧Lft E L d w w' h
 | .thrown o h=>e=pan (thrownV o)∧Lft E L d w w' h
 | .stop c h=>e=pan (stopV c)∧Lft E L d w w' h
theorem Lft.trans {w1 w2:World}{h2:Hp}(A:Kp (own E L) w w1) (N:∀ k,own E L' k→own E L k∨w.heap.size≤k) (B:Lft E L' d w1 w2 h2):Lft E L d w w2 h2:=by
 obtain ⟨L2,K,N2,H⟩:=B
 have:=A.size
 exact ⟨L2,A.trans K (fun y hy=>N y hy),fun k hk=>(N2 k hk).elim (N k) (fun q=>.inr (by omega)),H⟩
theorem Lft.below {w1 w2:World}(A:Lft E L d w w1 h) (hb:Below w1.heap.size w1 w2):Lft E L d w w2 h:=by
 obtain ⟨L2,K,N2,H⟩:=A
 exact ⟨L2,kb K hb,N2,H.below hb⟩
theorem Lft.before {w1 w2:World}(hb:Below w.heap.size w w1) (A:Lft E L d w1 w2 h):Lft E L d w w2 h:=A.trans (kpB hb) same_own
set_option maxRecDepth 100000 in
theorem fieldN (a b:Value) (w:World):(Instr.field 46 (.agg #[a,b]) 1).run Tryz.prog w=.ok b w:=by kernel_rfl
def raiseV (h:Hp):Value:=if 100≤h.objs.length then stopV 4 else thrownV h.objs.length
def raiseH (l:List Cls) (cl:Int) (h:Hp):Hp:=if 100≤h.objs.length then h else more h ⟨cl,fresh l cl⟩
theorem panR_raise {cl:Int}(A:Lft E L d w w' (raiseH E.f.classes cl h)):PanR E L d w V (raise E.f.classes cl h) (pan (raiseV h)) w':=by
 unfold raiseH at A
 unfold raiseV
 by_cases q:100≤h.objs.length
 ·rw [if_pos q] at A ⊢
  have hr:(raise E.f.classes cl h:Res α)=.stop 4 h:=by unfold raise new;rw [if_pos q];rfl
  rw [hr];exact ⟨rfl,A⟩
 ·rw [if_neg q] at A ⊢
  have hr:(raise E.f.classes cl h:Res α)=.thrown h.objs.length (more h ⟨cl,fresh E.f.classes cl⟩):=by unfold raise new;rw [if_neg q];simp [Res.bind,more]
  rw [hr];exact ⟨rfl,A⟩
set_option maxRecDepth 100000 in
theorem raiseP (H:PH E w L h d) (hm:Hier.may E.f.classes=true) (cl:Int) :
  Calls Tryz.prog 155 #[.pointer (some ⟨E.hb,0,none⟩),.int .i64 cl] w fun e w'=>e=.panicked [{ v:=raiseV h,recovered:=false }]∧Lft E L d w w' (raiseH E.f.classes cl h):=by
 have HH:=Lib.hid H
 by_cases q:100≤h.objs.length
 ·have h1:Hid (raiseV h=stopV 4):=by show _=_;unfold raiseV;rw [if_pos q]
  have h2:Hid (raiseH E.f.classes cl h=h):=by show _=_;unfold raiseH;rw [if_pos q]
  rw [h1.out,h2.out]
  clear H
  go_enter Tryz.func155,Tryz.ntmps155
  go_wp2_with (go_at_call 163;refine (newFull HH.out cl q).mono ?_;rintro e w1 ⟨rfl,hb⟩;unfold pan)
  refine And.intro rfl ?_
  exact ⟨rfl,Lft.of_below HH.out hb⟩
 ·have h1:Hid (raiseV h=thrownV h.objs.length):=by show _=_;unfold raiseV;rw [if_neg q]
  have h2:Hid (raiseH E.f.classes cl h=more h ⟨cl,fresh E.f.classes cl⟩):=by show _=_;unfold raiseH;rw [if_neg q]
  rw [h1.out,h2.out]
  have hfl:=fieldN
  clear H
  go_enter Tryz.func155,Tryz.ntmps155
  go_wp2_with (go_at_call 163;refine (newOk HH.out hm cl (by omega)).mono ?_;rintro e w1 ⟨rfl,hl⟩;replace hl:=Lib.hid hl)
  refine And.intro rfl ?_
  exact ⟨rfl,hl.out⟩
set_option maxRecDepth 100000 in
theorem throwP (H:PH E w L h d) (hm:Hier.may E.f.classes=true) (v:Vl) :
  Calls Tryz.prog 109 #[.pointer (some ⟨E.hb,0,none⟩),.agg #[.int .i64 v.kind,.int .i64 v.n]] w (PanR E L d w V (Run.throw E.f.classes v h)):=by
 have HH:=Lib.hid H
 have hb:=Lib.hid (show Below w.heap.size w (w.alloc (.cells #[.int .i64 v.kind,.int .i64 v.n] 46)) from Rd.byB)
 by_cases q:v.kind=3
 ·have qb:(v.kind==3)=true:=by simpa using q
  by_cases q2:v.n < 0
  ·have hr:Hid ((Run.throw E.f.classes v h:Res α)=raise E.f.classes 1 h):=by show _=_;unfold Run.throw;rw [if_neg (by simpa using q),if_pos q2]
   have qd:decide (v.n < 0)=true:=by simpa using q2
   rw [hr.out]
   clear H q q2
   go_enter Tryz.func109,Tryz.ntmps109
   go_wp2_with (first | (go_at_call 97;refine (mustT _).mono ?_;rintro e w1 ⟨rfl,rfl⟩) | (go_at_call 155;refine (raiseP (HH.out.below hb.out) hm 1).mono ?_;rintro e w1 ⟨rfl,A⟩;replace A:=Lib.hid A))
   refine And.intro rfl ?_
   exact panR_raise (Lft.before hb.out A.out)
  ·have hr:Hid ((Run.throw E.f.classes v h:Res α)=.thrown v.n.toNat h):=by show _=_;unfold Run.throw;rw [if_neg (by simpa using q),if_neg q2]
   have qd:decide (v.n < 0)=false:=by simpa using q2
   have hn:Hid (v.n=(v.n.toNat:Int)):=by show _=_;omega
   rw [hr.out]
   clear H q q2
   go_enter Tryz.func109,Tryz.ntmps109
   go_wp2_with (go_at_call 97;refine (mustT _).mono ?_;rintro e w1 ⟨rfl,rfl⟩)
   refine And.intro rfl ?_
   refine ⟨?_,Lft.of_below HH.out hb.out⟩
   unfold pan thrownV
   rw [← hn.out]
 ·have qb:(v.kind==3)=false:=by simpa using q
  have hr:Hid ((Run.throw E.f.classes v h:Res α)=.stop 6 h):=by show _=_;unfold Run.throw;rw [if_pos q]
  rw [hr.out]
  clear H q
  go_enter Tryz.func109,Tryz.ntmps109
  go_wp2_with (go_at_call 97;refine (mustF _).mono ?_;rintro e w1 ⟨rfl,rfl⟩)
  refine And.intro rfl ?_
  exact ⟨rfl,Lft.of_below HH.out hb.out⟩
theorem info_int64:(Tryz.prog.info? 2).map (fun i=>(i.zero,i.size,i.bytes))=some (some (.int .i64 0),1,8):=by kernel_rfl
def outed (h:Hp) (n:Int):Hp:={ h with out:=h.out++[n] }
theorem grow_out (H:PH E w L h d) (hW:Below w.heap.size w W){g cap:Nat}{n:Int}
  (ho:w2.ownsRow E.B 2 1 (.slice (some ⟨g,0,none⟩) (h.out.length+1) cap) (h.out.length+1) (h.out.map (.int .i64 ·)++[.int .i64 n])) (hg:W.grownBy w2 L.vo.ownBlock) (hat:L.vo.ownBlock=some g∨g=W.heap.size) :
  Lft E L d w (w2.setCell ⟨E.hb,5,none⟩ (.slice (some ⟨g,0,none⟩) (h.out.length+1) cap)) (outed h n):=by
 have HW:=H.below hW
 have hsz:=hW.size
 obtain ⟨n1,n2,n3⟩:=hb_no H
 have hvo:∀ k,L.vo.ownBlock=some k→own E L k:=fun k e=>.inr (.inl e)
 have hK:Kp (fun k=>L.vo.ownBlock=some k) W w2:=Kp.of_grown hg (fun k e=>e)
 have apart:∀ k,(L.vo.ownBlock=some k)→k≠E.hb∧L.vb.ownBlock≠some k∧k∉L.mbs:=by
  intro k e
  refine ⟨fun q=>n1 (q ▸ e),H.apart.2.2 k e,fun hm=>?_⟩
  obtain ⟨i,hi,e2⟩:=List.getElem_of_mem hm
  obtain ⟨es,c,h1,_⟩:=H.maps i hi
  rw [e2] at h1
  exact row_nomap H.out e h1
 have gap:g≠E.hb∧L.vb.ownBlock≠some g∧g∉L.mbs:=by
  rcases hat with e | e
  ·exact apart g e
  ·refine ⟨by have:=H.hbw;omega,fun q=>?_,fun q=>?_⟩
   ·have:=(own_lo H (.inr (.inr (.inl q)))).2;omega
   ·have:=(own_lo H (.inr (.inr (.inr q)))).2;omega
 have hcell:Kp (fun k=>k=E.hb) w2 (w2.setCell ⟨E.hb,5,none⟩ (.slice (some ⟨g,0,none⟩) (h.out.length+1) cap)):=Kp.setCell (Kp.refl (fun k=>k=E.hb) w2) (p:=⟨E.hb,5,none⟩) (.inl rfl) _
 have hKK:Kp (own E L) w (w2.setCell ⟨E.hb,5,none⟩ (.slice (some ⟨g,0,none⟩) (h.out.length+1) cap)) :=
  ((kpB hW:Kp (own E L) w W).trans hK (fun y hy=>.inl (hvo y hy))).trans hcell (fun y hy=>.inl (.inl hy))
 have hb0:E.B≤w.heap.size:=by have:=H.base;omega
 have hlo:∀ k,own E L k→E.B≤k:=fun k hk=>(own_lo H hk).1
 have hap:∀ k,(Value.slice (some ⟨g,0,none⟩) (h.out.length+1) cap).ownBlock=some k→L.vb.ownBlock≠some k:=fun k e=>by
  have:k=g:=by simpa [Value.ownBlock,eq_comm] using e
  subst this;exact gap.2.1
 refine ⟨⟨.slice (some ⟨g,0,none⟩) (h.out.length+1) cap,L.vb,L.mbs⟩,hKK,fun k hk=>?_,?_⟩
 ·rcases hk with e | e | e | e
  ·exact .inl (.inl e)
  ·have:k=g:=by simpa [Value.ownBlock,eq_comm] using e
   subst this
   rcases hat with e | e
   ·exact .inl (hvo _ e)
   ·right;omega
  ·exact .inl (.inr (.inr (.inl e)))
  ·exact .inl (.inr (.inr (.inr e)))
 ·refine ⟨?_,hKK.sl mCls H.cls hb0 hlo,hKK.sl mMe H.mes hb0 hlo,hKK.sl mInt H.inp hb0 hlo,?_,?_,H.many,fun i hi=>?_,⟨H.base.1,Nat.lt_of_lt_of_le H.base.2.1 hKK.size,H.base.2.2⟩,⟨fun e=>gap.1 (by simpa [Value.ownBlock] using e),n2,hap⟩,H.nodup⟩
  ·have c1:Blk w2 E.hb (cellsP E L h d):=HW.cells.next hK (fun e=>(apart _ e).1 rfl)
   exact c1.set 5 (by simp [cellsP]) _
  ·unfold outed
   simp only [List.length_append,List.length_cons,List.length_nil,List.map_append,List.map_cons,List.map_nil]
   exact ownsRow_setCell_other ho (by simp [Value.ownBlock];exact gap.1) _
  ·exact row_keep (row_keep HW.objs hK (fun k e e'=>(apart k e').2.1 e)) hcell (fun k e e'=>by subst e';exact n2 e)
  ·obtain ⟨es,c,g1,g2⟩:=HW.maps i hi
   have hlt:=(Array.getElem?_eq_some_iff.1 g1).1
   refine ⟨es,c,?_,g2⟩
   rw [hcell.block _ (Nat.lt_of_lt_of_le hlt hK.size) (fun e=>n3 (e ▸ List.getElem_mem hi)),hK.block _ hlt (fun e=>(apart _ e).2.2 (List.getElem_mem hi))]
   exact g1
theorem out_mid (H:PH E w L h d) (hW:Below w.heap.size w W) (hg:W.grownBy w2 L.vo.ownBlock):Blk w2 E.hb (cellsP E L h d) :=
 (H.below hW).cells.next (Kp.of_grown (X:=fun k=>L.vo.ownBlock=some k) hg (fun k e=>e)) (fun e=>(hb_no H).1 e)
set_option maxRecDepth 100000 in
theorem emitP (H:PH E w L h d) (v:Vl) (kind:Int) (hlen:h.out.length≤60000) :
  Calls Tryz.prog 168 #[.pointer (some ⟨E.hb,0,none⟩),.agg #[.int .i64 v.kind,.int .i64 v.n],.int .i64 kind] w (PanR E L d w (fun _=>.tuple #[]) (Run.emit v kind h)):=by
 by_cases q:v.kind=kind
 ·have hr:Hid (Run.emit v kind h=.ok () (outed h v.n)):=by show _=_;unfold Run.emit;rw [if_neg (by simpa using q)];rfl
  rw [hr.out]
  obtain ⟨io,hi',hy0,hy1,hy2⟩:=info_parts info_int64
  have HH:=Lib.hid H
  have hhb:=H.hbw
  have hB2:E.B≤w.heap.size:=by have:=H.base;omega
  have c5:=H.c5
  obtain ⟨ba,bcap,hvo⟩:=row_any H.out
  have ho2:Hid (w.ownsRow E.B 2 1 (.slice ba h.out.length bcap) h.out.length (h.out.map (.int .i64 ·))):=by
   show World.ownsRow _ _ _ _ _ _ _
   rw [← hvo];exact H.out
  rw [hvo] at c5
  obtain ⟨kd,n⟩:=v
  simp only at q
  subst q
  have f5:=H.fz 5 (by decide)
  clear H
  go_enter Tryz.func168,Tryz.ntmps168
  go_wp2_with (go_at_call 97;refine (mustT _).mono ?_;rintro e w2 ⟨rfl,rfl⟩)
  go_region_law ((refine step_append_lies _ rfl (.tmp 16) (.tmp 19) 26 rfl E.B 2 io (.int .i64 0) 1 8 Tryz.underlying26 hi' hy0 hy1 hy2 rfl (by decide) (.slice ba h.out.length bcap) h.out.length (h.out.map (.int .i64 ·)) (by simp [Act.eval,Act.put]) (by exact row_drew ((ho2.out.alloc _).alloc _)) ⟨w.heap.size+1,0,none⟩ 1 1 [.int .i64 n] (by simp [Act.eval,Act.put]) rfl (by exact news_of (by simp)) (by simp [Value.oneCell']) (by decide) (by unfold maxLen;omega) (by omega) (by simp;omega) _ rfl ?_;intro g2 cap2 w3 hown3 hgrow3 hat3 hlt3;rw [← hvo] at hgrow3 hat3;have OB:=out_mid HH.out (by exact Rd.byB) hgrow3;have q1:w3.cell? ⟨E.hb,5,none⟩=some (.slice ba h.out.length bcap):=(by rw [← hvo];exact (OB 5 (by simp [cellsP])).1);have q2:w3.frozen? ⟨E.hb,5,none⟩=false:=(OB 5 (by simp [cellsP])).2;have HA:=Lib.hid (grow_out HH.out (by exact Rd.byB) hown3 hgrow3 (by simpa using hat3));clear hown3 hgrow3 hat3 OB))
  all_goals
   go_end0
   exact ⟨rfl,HA.out⟩
 ·have hr:Hid (Run.emit v kind h=.stop 6 h):=by show _=_;unfold Run.emit;rw [if_pos q]
  rw [hr.out]
  have HH:=Lib.hid H
  have qb:(v.kind==kind)=false:=by simpa using q
  clear H
  go_enter Tryz.func168,Tryz.ntmps168
  go_wp2_with (go_at_call 97;refine (mustF _).mono ?_;rintro e w2 ⟨rfl,rfl⟩)
  refine And.intro rfl ?_
  exact ⟨rfl,Lft.of_below HH.out Rd.byB⟩
end
end Hpw
namespace Hpw
open Num Rd D Run Mem HierW
theorem frz_kept {B:Nat}{w w':World}{b o:Nat}{x:Bool}(hb:Below B w w') (hlt:b < B) (h:w.frozen? ⟨b,o,none⟩=x):w'.frozen? ⟨b,o,none⟩=x:=(World.frozen?_of_block (a:=⟨b,o,none⟩) (hb.block b hlt)).trans h
section
variable {E:Ev}{w w' wr W w2:World}{L L':Lay}{h h':Hp}{d:Nat}
set_option maxRecDepth 100000 in
theorem fieldStuck (H:PH E w L h d) (hm:Hier.may E.f.classes=true) (v:Vl) (c k:Int) (hv:v.kind=3→v.n < h.objs.length) (ho:ofT E.f.classes h v ⟨3,c⟩=false) :
  Calls Tryz.prog 196 #[.pointer (some ⟨E.hb,0,none⟩),.agg #[.int .i64 v.kind,.int .i64 v.n],.int .i64 c,.int .i64 k] w fun e w'=>e=pan (stopV 6)∧Lft E L d w w' h:=by
 have HH:=Lib.hid H
 have HO:=Lib.hid ho
 have HV:=Lib.hid hv
 obtain ⟨kd,n⟩:=v
 clear H ho hv
 go_enter Tryz.func196,Tryz.ntmps196
 go_wp2_with (first | (go_at_call 98;refine (of E L h d ⟨kd,n⟩ ⟨3,c⟩ _ (HH.out.below (by exact Rd.byB)) hm HV.out).mono ?_;rw [HO.out];rintro e w1 ⟨rfl,hb1⟩;have HB1:=Lib.hid (show Below w.heap.size w w1 from Below.trans (by exact Rd.byB) (hb1.mono (by simp <;> omega)));clear hb1) | (go_at_call 97;refine (mustF _).mono ?_;rintro e w2 ⟨rfl,rfl⟩))
 refine And.intro rfl ?_
 exact ⟨rfl,Lft.of_below HH.out HB1.out⟩
set_option maxRecDepth 100000 in
theorem fieldNull (H:PH E w L h d) (hm:Hier.may E.f.classes=true) (v:Vl) (c k:Int) (hv:v.kind=3→v.n < h.objs.length) (ho:ofT E.f.classes h v ⟨3,c⟩=true) (hn:v.n < 0) :
  Calls Tryz.prog 196 #[.pointer (some ⟨E.hb,0,none⟩),.agg #[.int .i64 v.kind,.int .i64 v.n],.int .i64 c,.int .i64 k] w fun e w'=>e=pan (raiseV h)∧Lft E L d w w' (raiseH E.f.classes 1 h):=by
 have HH:=Lib.hid H
 have HO:=Lib.hid ho
 have HV:=Lib.hid hv
 obtain ⟨kd,n⟩:=v
 have hd:decide (n < 0)=true:=by simpa using hn
 clear H ho hv hn
 go_enter Tryz.func196,Tryz.ntmps196
 go_wp2_with (first | (go_at_call 98;refine (of E L h d ⟨kd,n⟩ ⟨3,c⟩ _ (HH.out.below (by exact Rd.byB)) hm HV.out).mono ?_;rw [HO.out];rintro e w1 ⟨rfl,hb1⟩;have kk:∀ (b o:Nat) (u:Value),World.cell? _ ⟨b,o,none⟩=some u→w1.cell? ⟨b,o,none⟩=some u:=fun b o u hc=>kept hb1 (cell_lt hc) hc;have y1:=kk w.heap.size 1 (.int .i64 n) (by go_simp);clear kk;have HB1:=Lib.hid (show Below w.heap.size w w1 from Below.trans (by exact Rd.byB) (hb1.mono (by simp <;> omega)));clear hb1) | (go_at_call 97;refine (mustT _).mono ?_;rintro e w2 ⟨rfl,rfl⟩) | (go_at_call 155;refine (raiseP (HH.out.below HB1.out) hm 1).mono ?_;rintro e w2 ⟨rfl,A⟩;replace A:=Lib.hid A))
 refine And.intro rfl ?_
 exact ⟨rfl,Lft.before HB1.out A.out⟩
set_option maxRecDepth 100000 in
theorem fieldOk (H:PH E w L h d) (hm:Hier.may E.f.classes=true) (n c k:Int) (hv:n < h.objs.length) (ho:ofT E.f.classes h ⟨3,n⟩ ⟨3,c⟩=true) (hn:0≤n){g cap:Nat}(hvb:L.vb=.slice (some ⟨g,0,none⟩) h.objs.length cap) (hcap:h.objs.length≤cap) :
  Calls Tryz.prog 196 #[.pointer (some ⟨E.hb,0,none⟩),.agg #[.int .i64 3,.int .i64 n],.int .i64 c,.int .i64 k] w fun e w'=>e=.returned (.tuple #[.pointer (some ⟨g,n.toNat*2,none⟩),.agg #[.int .i64 c,.int .i64 k]])∧Below w.heap.size w w':=by
 have HH:=Lib.hid H
 have HO:=Lib.hid ho
 have c8:=H.c8
 have hhb:=H.hbw
 rw [hvb] at c8
 have hd:decide (n < 0)=false:=by simpa using hn
 have hlt2:n.toNat < h.objs.length:=by omega
 clear H ho
 go_enter Tryz.func196,Tryz.ntmps196
 go_wp2_with (first | (go_at_call 98;refine (of E L h d ⟨3,n⟩ ⟨3,c⟩ _ (HH.out.below (by exact Rd.byB)) hm (fun _=>hv)).mono ?_;rw [HO.out];rintro e w1 ⟨rfl,hb1⟩;have kk:∀ (b o:Nat) (u:Value),World.cell? _ ⟨b,o,none⟩=some u→w1.cell? ⟨b,o,none⟩=some u:=fun b o u hc=>kept hb1 (cell_lt hc) hc;have kf:∀ (b o:Nat) (x:Bool),b < (World.heap _).size→World.frozen? _ ⟨b,o,none⟩=x→w1.frozen? ⟨b,o,none⟩=x:=fun b o x hl hc=>frz_kept hb1 hl hc;have y1:=kk w.heap.size 1 (.int .i64 n) (by go_simp);have y2:=kk E.hb 8 (.slice (some ⟨g,0,none⟩) h.objs.length cap) (by go_simp);have y3:=kk (w.heap.size+1) 0 (.int .i64 0) (by go_simp);have y4:=kk (w.heap.size+1) 1 (.int .i64 0) (by go_simp);have y5:=kf (w.heap.size+1) 0 false (by simp) (by go_simp);have y6:=kf (w.heap.size+1) 1 false (by simp) (by go_simp);clear kk kf;have HB1:=Lib.hid (show Below w.heap.size w w1 from Below.trans (by exact Rd.byB) (hb1.mono (by simp <;> omega)));clear hb1) | (go_at_call 97;refine (mustT _).mono ?_;rintro e w2 ⟨rfl,rfl⟩))
 have hne:¬ (w.heap.size+1=E.hb):=by omega
 go_region
 all_goals
  go_wp2
  refine bodyPost_ret (v:=.tuple #[.pointer (some ⟨g,n.toNat*2,none⟩),.agg #[.int .i64 c,.int .i64 k]]) (by simp [results,Tryz.results196,go_sem] <;> go_simp) rfl ?_
  exact ⟨rfl,by have hb:=HB1.out;exact Rd.byB⟩
theorem get_raise {l:List Cls}{v:Vl}{c k:Int}(ho:ofT l h v ⟨3,c⟩=true) (hn:v.n < 0):Run.get l v c k h=raise l 1 h:=by unfold Run.get;rw [if_neg (by rw [ho];simp),if_pos hn]
theorem get_ok {l:List Cls}{v:Vl}{c k:Int}(ho:ofT l h v ⟨3,c⟩=true) (hn:¬ v.n < 0):Run.get l v c k h=.ok (find (obj h v.n).held (c,k)) h:=by unfold Run.get;rw [if_neg (by rw [ho];simp),if_neg hn]
theorem PH.mp (H:PH E w L h d){n:Int}(h0:0≤n) (h1:n < h.objs.length):∃ r es c pm,L.mbs.getD n.toNat 0=r∧r < w.heap.size∧r≠E.hb∧w.heap[r]? = some (.map es c)∧es.toList.map (fun e=>(e.key,e.val))=pm.map (fun x=>(keyV x.1,vval x.2))∧(∀ k,Hpw.look pm k=Hpw.look (obj h n).held k)∧r∈L.mbs:=by
 have hi:n.toNat < L.mbs.length:=by have:=H.many;omega
 obtain ⟨es,c,m1,pm,m2,m3⟩:=H.maps n.toNat hi
 have e:L.mbs.getD n.toNat 0=L.mbs[n.toNat]:=by rw [List.getD_eq_getElem?_getD,List.getElem?_eq_getElem hi];rfl
 exact ⟨_,es,c,pm,e,(Array.getElem?_eq_some_iff.1 m1).1,fun q=>(hb_no H).2.2 (q ▸ List.getElem_mem hi),m1,m2,m3,List.getElem_mem hi⟩
set_option maxRecDepth 100000 in
theorem getP (H:PH E w L h d) (hm:Hier.may E.f.classes=true) (v:Vl) (c k:Int) (hv:v.kind=3→v.n < h.objs.length) :
  Calls Tryz.prog 164 #[.pointer (some ⟨E.hb,0,none⟩),.agg #[.int .i64 v.kind,.int .i64 v.n],.int .i64 c,.int .i64 k] w (PanR E L d w vval (Run.get E.f.classes v c k h)):=by
 have HH:=Lib.hid H
 by_cases ho:ofT E.f.classes h v ⟨3,c⟩=true
 ·by_cases hn:v.n < 0
  ·have hr:=Lib.hid (get_raise (c:=c) (k:=k) ho hn)
   rw [hr.out]
   have HO:=Lib.hid ho
   have HV:=Lib.hid hv
   obtain ⟨kd,n⟩:=v
   simp only at hn
   have hb:Below w.heap.size w (w.alloc (.cells #[.int .i64 kd,.int .i64 n] 46)):=by exact Rd.byB
   clear H ho hv hr
   go_enter Tryz.func164,Tryz.ntmps164
   go_wp2_with (go_at_call 196;refine (fieldNull (HH.out.below (by exact Rd.byB)) hm ⟨kd,n⟩ c k HV.out HO.out hn).mono ?_;rintro e w1 ⟨rfl,A⟩;have A2:=Lib.hid (Lft.before (w:=w) (by exact Rd.byB) A);clear A;unfold pan)
   refine And.intro rfl ?_
   exact panR_raise A2.out
  ·have hr:=Lib.hid (get_ok (c:=c) (k:=k) ho hn)
   rw [hr.out]
   obtain ⟨kd,n⟩:=v
   simp only at hn
   have hk3:kd=3:=(of_ref ho).1
   subst hk3
   have hn0:0≤n:=by omega
   have hv1:n < h.objs.length:=hv rfl
   obtain ⟨g,cap,hvb,c1,c2,hg,hgne,o0,o1⟩:=H.ob hn0 hv1
   obtain ⟨r,es,cc,pm,hrr,hrw,hrne,m1,m2,m3,_⟩:=H.mp hn0 hv1
   rw [hrr] at o1
   have hx:Hid ((Hpw.look pm (c,k)).getD Vl.nil=find (obj h n).held (c,k)):=by show _=_;rw [m3];rfl
   have hlr:Hid (∀ W:World,W.heap[r]? = some (.map es cc)→(Instr.lookup 91 (.map (some r)) (.agg #[.int .i64 c,.int .i64 k]) false).run Tryz.prog W=.ok (vval (find (obj h n).held (c,k))) W):=fun W hW=>by
    have:=look_run hW m2 (c,k)
    rw [hx.out] at this
    exact this
   obtain ⟨⟨xk,xn⟩,hxx⟩:∃ x,Hid (find (obj h n).held (c,k)=x):=⟨_,Lib.hid rfl⟩
   rw [hxx.out] at hlr ⊢
   have hlr2:Hid (∀ W:World,W.heap[r]? = some (.map es cc)→(Instr.lookup 91 (.map (some r)) (.agg #[.int .i64 c,.int .i64 k]) false).run Tryz.prog W=.ok (.agg #[.int .i64 xk,.int .i64 xn]) W):=hlr.out
   clear hlr
   have HO:=Lib.hid ho
   have HVB:=Lib.hid hvb
   have hhb:=H.hbw
   clear H ho hv hr m2 m3 hx hvb
   go_enter Tryz.func164,Tryz.ntmps164
   go_wp2_with (go_at_call 196;refine (fieldOk (HH.out.below (by exact Rd.byB)) hm n c k hv1 HO.out hn0 HVB.out c1).mono ?_;rintro e w1 ⟨rfl,hb1⟩;have kk:∀ (b o:Nat) (u:Value),World.cell? _ ⟨b,o,none⟩=some u→w1.cell? ⟨b,o,none⟩=some u:=(fun b o u hc=>kept hb1 (cell_lt hc) hc);have kf:∀ (b o:Nat) (x:Bool),b < (World.heap _).size→World.frozen? _ ⟨b,o,none⟩=x→w1.frozen? ⟨b,o,none⟩=x:=(fun b o x hl hc=>frz_kept hb1 hl hc);have y1:=kk g (n.toNat*2+1) (.map (some r)) (by go_simp);have y3:=kk (w.heap.size+1) 0 (.int .i64 0) (by go_simp);have y4:=kk (w.heap.size+1) 1 (.int .i64 0) (by go_simp);have y5:=kf (w.heap.size+1) 0 false (by simp) (by go_simp);have y6:=kf (w.heap.size+1) 1 false (by simp) (by go_simp);have HB1:=Lib.hid (show Below w.heap.size w w1 from Below.trans (by exact Rd.byB) (hb1.mono (by simp <;> omega)));have hsz1:w.heap.size+1 < w1.heap.size:=cell_lt y3;clear kk kf hb1)
   have m1':w1.heap[r]? = some (.map es cc):=(HB1.out.block r hrw).trans m1
   have yl:=hlr2.out (w1.alloc (.cells #[.int .i64 c,.int .i64 k] 263)).drew ((Below.heap_alloc _ _ _ (by omega)).trans m1')
   have hsz2:w.heap.size+1 < w1.heap.size+1:=by omega
   have hsz3:g < w1.heap.size:=cell_lt y1
   go_region
   all_goals
    go_wp2
    refine bodyPost_ret (v:=.agg #[.int .i64 xk,.int .i64 xn]) (by simp [results,Tryz.results164,go_sem] <;> go_simp) rfl ?_
    have hb:=HB1.out
    exact ⟨rfl,Lft.of_below HH.out Rd.byB⟩
 ·have ho2:ofT E.f.classes h v ⟨3,c⟩=false:=by simpa using ho
  have hr:Hid (Run.get E.f.classes v c k h=.stop 6 h):=by show _=_;unfold Run.get;rw [if_pos ho2]
  rw [hr.out]
  have HO:=Lib.hid ho2
  have HV:=Lib.hid hv
  obtain ⟨kd,n⟩:=v
  clear H ho hv ho2 hr
  go_enter Tryz.func164,Tryz.ntmps164
  go_wp2_with (go_at_call 196;refine (fieldStuck (HH.out.below (by exact Rd.byB)) hm ⟨kd,n⟩ c k HV.out HO.out).mono ?_;rintro e w1 ⟨rfl,A⟩;have A2:=Lib.hid (Lft.before (w:=w) (by exact Rd.byB) A);clear A;unfold pan)
  refine And.intro rfl ?_
  exact ⟨rfl,A2.out⟩
end
end Hpw
namespace Hpw
open Num Rd D Run Mem HierW
theorem atOf {l:List Cls}{c:Nat}{x:Cls}(hc:c < l.length) (hx:l[c]=x):Hier.at' l c=x:=by rw [Hier.at_eq hc,hx]
theorem mapIs_become {es':Array MapEntry}{pm pm' held:List ((Int × Int) × Vl)}{k:Int × Int}{v:Vl}(h1:es'.toList.map (fun e=>(e.key,e.val))=pm'.map (fun x=>(keyV x.1,vval x.2))) (h2:∀ k',look pm' k'=if k'=k then some v else look pm k') (h3:∀ k,look pm k=look held k) (hk:k∈held.map (·.1)):MapIs es' (become held k v):=by
 refine ⟨pm',h1,fun k'=>?_⟩
 rw [h2,h3]
 clear h1 h2 h3
 induction held with
 | nil=>simp at hk
 | cons x held ih =>
  unfold look become
  simp only [List.map_cons,List.find?_cons]
  by_cases e:x.1=k
  ·rw [if_pos e]
   by_cases e2:k'=k
   ·subst e2;simp
   ·have e3:¬ k=k':=fun q=>e2 q.symm
    have e4:¬ x.1=k':=fun q=>e2 (q.symm.trans e)
    simp only [e2,e3,e4,decide_false,if_false]
    by_cases hm:k∈held.map (·.1)
    ·have:=ih hm
     rw [if_neg e2] at this
     exact this
    ·have hb:become held k v=held:=by
      unfold become
      refine (List.map_congr_left (g:=id) (fun y hy=>?_)).trans (List.map_id _)
      have hy1:y.1≠k:=fun q=>hm (q ▸ List.mem_map.2 ⟨y,hy,rfl⟩)
      rw [if_neg hy1];rfl
     unfold become at hb
     rw [hb]
  ·rw [if_neg e]
   have hm:k∈held.map (·.1):=by
    rcases List.mem_cons.1 hk with q | q
    ·exact absurd q.symm e
    ·exact q
   have:=ih hm
   unfold look become at this
   by_cases e3:x.1=k'
   ·have e4:¬ k'=k:=fun q=>e (e3.trans q)
    simp [e3,e4]
   ·simp only [e3,decide_false]
    exact this
section
variable {E:Ev}{w w' wr W w2:World}{L L':Lay}{h h':Hp}{d:Nat}
def putH (h:Hp) (n:Int) (k:Int × Int) (v:Vl):Hp:={ h with objs:=h.objs.set n.toNat ⟨(obj h n).cls,become (obj h n).held k v⟩ }
theorem put_type {l:List Cls}{r v:Vl}{c k:Int}{t:Ty}(h1:ofT l h v t=false):Run.put l r c k v t h=.stop 6 h:=by unfold Run.put;rw [if_pos h1]
theorem put_stuck {l:List Cls}{r v:Vl}{c k:Int}{t:Ty}(h1:ofT l h v t=true) (h2:ofT l h r ⟨3,c⟩=false):Run.put l r c k v t h=.stop 6 h:=by unfold Run.put;rw [if_neg (by rw [h1];simp),if_pos h2]
theorem put_raise {l:List Cls}{r v:Vl}{c k:Int}{t:Ty}(h1:ofT l h v t=true) (h2:ofT l h r ⟨3,c⟩=true) (hn:r.n < 0):Run.put l r c k v t h=raise l 1 h:=by unfold Run.put;rw [if_neg (by rw [h1];simp),if_neg (by rw [h2];simp),if_pos hn]
theorem put_okU {l:List Cls}{r v:Vl}{c k:Int}{t:Ty}(h1:ofT l h v t=true) (h2:ofT l h r ⟨3,c⟩=true) (hn:¬ r.n < 0):Run.put l r c k v t h=.ok () (putH h r.n (c,k) v):=by unfold Run.put;rw [if_neg (by rw [h1];simp),if_neg (by rw [h2];simp),if_neg hn];rfl
theorem PH.setMap (H:PH E w L h d) (hW:Below w.heap.size w W){n:Int}(h0:0≤n) (h1:n < h.objs.length){o:Ob}(ho:o.cls=(obj h n).cls){r:Nat}(hr:L.mbs.getD n.toNat 0=r){es':Array MapEntry}{c':Nat}(hm:MapIs es' o.held):Lft E L d w (W.putObj r (.map es' c')) { h with objs:=h.objs.set n.toNat o }:=by
 have HW:=H.below hW
 have hi:n.toNat < L.mbs.length:=by have:=H.many;omega
 have er:L.mbs[n.toNat]=r:=by rw [← hr,List.getD_eq_getElem?_getD,List.getElem?_eq_getElem hi];rfl
 have hmem:r∈L.mbs:=er ▸ List.getElem_mem hi
 have hrW:r < W.heap.size:=by
  obtain ⟨es,c,g1,_⟩:=HW.maps n.toNat hi
  rw [er] at g1
  exact (Array.getElem?_eq_some_iff.1 g1).1
 have K:Kp (fun k=>k=r) W (W.putObj r (.map es' c')):=⟨rfl,rfl,rfl,by simp [World.putObj],fun k hk hn=>World.putObj_heap_other (fun e=>hn e)⟩
 have KK:Kp (own E L) w (W.putObj r (.map es' c')):=(kpB hW:Kp (own E L) w W).trans K (fun y e=>.inl (by subst e;exact .inr (.inr (.inr hmem))))
 have hb0:E.B≤w.heap.size:=by have:=H.base;omega
 have hlo:∀ k,own E L k→E.B≤k:=fun k hk=>(own_lo H hk).1
 obtain ⟨es0,c0,m0,_⟩:=HW.maps n.toNat hi
 rw [er] at m0
 obtain ⟨n1,n2,n3⟩:=hb_no H
 refine ⟨L,KK,same_own,?_⟩
 refine ⟨HW.cells.next K (fun e=>n3 (by rw [e];exact hmem)),KK.sl mCls H.cls hb0 hlo,KK.sl mMe H.mes hb0 hlo,KK.sl mInt H.inp hb0 hlo,row_keep HW.out K (fun g hg e=>row_nomap HW.out hg (e ▸ m0)),?_,by simpa using H.many,fun i hi2=>?_,⟨H.base.1,Nat.lt_of_lt_of_le H.base.2.1 KK.size,H.base.2.2⟩,H.apart,H.nodup⟩
 ·have e1:ocells (h.objs.set n.toNat o) L.mbs=ocells h.objs L.mbs:=by
   have key:∀ (os:List Ob) (bs:List Nat) (i:Nat),(os.getD i nilOb).cls=o.cls∨os.length≤i→ocells (os.set i o) bs=ocells os bs:=by
    intro os
    induction os with
    | nil=>intro bs i _;rfl
    | cons x os ih =>
     intro bs i hx
     cases bs with
     | nil=>cases i <;> rfl
     | cons b bs =>
      cases i with
      | zero =>
       have:x.cls=o.cls:=by
        rcases hx with hx | hx
        ·exact hx
        ·simp at hx
       simp [ocells,ocell,this]
      | succ i =>
       simp only [List.set_cons_succ,ocells]
       rw [ih bs i (by simpa using hx)]
   exact key h.objs L.mbs n.toNat (.inl ho.symm)
  simp only [List.length_set,e1]
  exact row_keep HW.objs K (fun g hg e=>row_nomap HW.objs hg (e ▸ m0))
 ·by_cases e:i=n.toNat
  ·subst e
   refine ⟨es',c',?_,?_⟩
   ·rw [er];exact World.putObj_heap_same hrW
   ·have:(h.objs.set n.toNat o).getD n.toNat nilOb=o:=by
     rw [List.getD_eq_getElem?_getD,List.getElem?_set_self (by omega)];rfl
    simp only [this]
    exact hm
  ·obtain ⟨es,c,g1,g2⟩:=HW.maps i hi2
   have hne:L.mbs[i]≠r:=fun q=>by
    have:L.mbs[i]=L.mbs[n.toNat]:=by rw [q,er]
    exact e ((List.getElem_inj H.nodup).1 this)
   refine ⟨es,c,?_,?_⟩
   ·rw [K.block _ (Array.getElem?_eq_some_iff.1 g1).1 hne];exact g1
   ·have:(h.objs.set n.toNat o).getD i nilOb=h.objs.getD i nilOb:=by
     rw [List.getD_eq_getElem?_getD,List.getD_eq_getElem?_getD,List.getElem?_set_ne (by omega)]
    simp only [this]
    exact g2
set_option maxRecDepth 100000 in
theorem putType (H:PH E w L h d) (hm:Hier.may E.f.classes=true) (r v:Vl) (c k:Nat) (hv:v.kind=3→v.n < h.objs.length) (hc:c < E.f.classes.length) (hk:k < (Hier.at' E.f.classes c).fields.length) (ht:ofT E.f.classes h v (ftype E.f.classes c k)=false) :
  Calls Tryz.prog 165 #[.pointer (some ⟨E.hb,0,none⟩),.agg #[.int .i64 r.kind,.int .i64 r.n],.int .i64 c,.int .i64 k,.agg #[.int .i64 v.kind,.int .i64 v.n]] w fun e w'=>e=pan (stopV 6)∧Lft E L d w w' h:=by
 have HH:=Lib.hid H
 have hhb:=H.hbw
 have hp:=Lib.hid ht
 have b0:=H.c0
 obtain ⟨ca,ccap,hvc,c1,c2,hel⟩:=id H.cls
 obtain ⟨cb,co,rfl,hcb,he⟩:=hel c hc
 obtain ⟨x,hx⟩:=at_of hc
 rw [hx.out] at he
 obtain ⟨_,_,fv,e2,hf⟩:=he
 have hfx:Hier.at' E.f.classes c=x:=atOf hc hx.out
 rw [hfx] at hk
 obtain ⟨fa,fcap,rfl,c3,c4,hfe⟩:=hf
 obtain ⟨fb,fo,rfl,hfb,hfe2⟩:=hfe k hk
 obtain ⟨t,htt⟩:=at_of hk
 rw [htt.out] at hfe2
 obtain ⟨t1,t2,_,_⟩:=hfe2
 have hft:Hid (ftype E.f.classes c k=t):=by
  show _=_
  unfold ftype
  rw [Int.toNat_natCast,Int.toNat_natCast,hfx,List.getD_eq_getElem?_getD,List.getElem?_eq_getElem hk,htt.out];rfl
 rw [hft.out] at hp
 rw [hvc] at b0
 have hci:(c:Int) < E.f.classes.length:=by omega
 have hki:(k:Int) < x.fields.length:=by omega
 have hbs:E.B≤w.heap.size:=by have:=H.base;omega
 have lcb:cb < w.heap.size:=by omega
 have lfb:fb < w.heap.size:=by omega
 have HV:=Lib.hid hv
 clear H ht hvc hel hfx hfe hv
 go_enter Tryz.func165,Tryz.ntmps165
 go_wp2
 refine Drawn.hd (fun w'=>w'.cell? ⟨E.hb,0,none⟩=some (.slice (some ⟨cb,co,none⟩) E.f.classes.length ccap)∧w'.cell? ⟨cb,co+c*2+1,none⟩=some (.slice (some ⟨fb,fo,none⟩) x.fields.length fcap)∧w'.cell? ⟨fb,fo+k*2,none⟩=some (.int .i64 t.kind)∧w'.cell? ⟨fb,fo+k*2+1,none⟩=some (.int .i64 t.cls)∧w'.cell? ⟨w.heap.size+1,0,none⟩=some (.int .i64 v.kind)∧w'.cell? ⟨w.heap.size+1,1,none⟩=some (.int .i64 v.n)) (h:=fun hHeld=>?_)
 refine Drawn.T 0 (some 12) (h:=?_)
 refine Drawn.T 1 (some 13) (h:=?_)
 refine Drawn.T 2 (some 14) (h:=?_)
 refine Drawn.T 3 (some 15) (h:=?_)
 refine Drawn.T 4 (some 16) (h:=?_)
 refine Drawn.T 5 (some 17) (h:=?_)
 refine Drawn.T 6 (some 18) (h:=?_)
 refine Drawn.T 7 (some 19) (h:=?_)
 refine Drawn.T 8 (some 20) (h:=?_)
 refine Drawn.T 9 (some 21) (h:=?_)
 refine Drawn.T 10 (some 22) (h:=?_)
 refine Drawn.T 11 (some 23) (h:=?_)
 refine Drawn.T 12 (some 24) (h:=?_)
 refine Drawn.T 13 (some 25) (h:=?_)
 refine Drawn.cl 14 (fun K hK=>?_)
 go_simp
 go_at_call 98
 refine (of E L h d ⟨v.kind,v.n⟩ t _ (HH.out.below (by exact Rd.byB)) hm HV.out).mono ?_
 rw [hp.out]
 rintro e w1 ⟨rfl,hb1⟩
 have kk:∀ (b o:Nat) (u:Value),World.cell? _ ⟨b,o,none⟩=some u→w1.cell? ⟨b,o,none⟩=some u:=fun b o u hc=>kept hb1 (cell_lt hc) hc
 have y0:=kk E.hb 0 (.slice (some ⟨cb,co,none⟩) E.f.classes.length ccap) (by go_simp)
 have y1:=kk cb (co+c*2+1) (.slice (some ⟨fb,fo,none⟩) x.fields.length fcap) (by go_simp)
 have y2:=kk fb (fo+k*2) (.int .i64 t.kind) (by go_simp)
 have y3:=kk fb (fo+k*2+1) (.int .i64 t.cls) (by go_simp)
 have y4:=kk (w.heap.size+1) 0 (.int .i64 v.kind) (by go_simp)
 have y5:=kk (w.heap.size+1) 1 (.int .i64 v.n) (by go_simp)
 have y6:=kk w.heap.size 0 (.int .i64 r.kind) (by go_simp)
 have y7:=kk w.heap.size 1 (.int .i64 r.n) (by go_simp)
 have HB1:=Lib.hid (show Below w.heap.size w w1 from Below.trans (by exact Rd.byB) (hb1.mono (by simp <;> omega)))
 have hz1:w.heap.size+1+1≤w1.heap.size:=by have:=hb1.size;simpa using this
 clear kk hb1
 go_wp2_with fail
 refine Drawn.bk hK (hS:=by (try dsimp only);exact ⟨y0,y1,y2,y3,y4,y5⟩) (h:=fun hHeld=>?_)
 clear hK K
 refine Drawn.cl 15 (fun K hK=>?_)
 go_simp
 refine (mustF _).mono ?_
 rintro e w2 ⟨rfl,rfl⟩
 refine And.intro rfl ?_
 exact ⟨rfl,Lft.of_below HH.out HB1.out⟩
set_option maxRecDepth 100000 in
theorem putStuck (H:PH E w L h d) (hm:Hier.may E.f.classes=true) (r v:Vl) (c k:Nat) (hv:v.kind=3→v.n < h.objs.length) (hc:c < E.f.classes.length) (hk:k < (Hier.at' E.f.classes c).fields.length) (ht:ofT E.f.classes h v (ftype E.f.classes c k)=true) (hr:r.kind=3→r.n < h.objs.length) (ho:ofT E.f.classes h r ⟨3,c⟩=false) :
  Calls Tryz.prog 165 #[.pointer (some ⟨E.hb,0,none⟩),.agg #[.int .i64 r.kind,.int .i64 r.n],.int .i64 c,.int .i64 k,.agg #[.int .i64 v.kind,.int .i64 v.n]] w fun e w'=>e=pan (stopV 6)∧Lft E L d w w' h:=by
 have HH:=Lib.hid H
 have hhb:=H.hbw
 have hp:=Lib.hid ht
 have b0:=H.c0
 obtain ⟨ca,ccap,hvc,c1,c2,hel⟩:=id H.cls
 obtain ⟨cb,co,rfl,hcb,he⟩:=hel c hc
 obtain ⟨x,hx⟩:=at_of hc
 rw [hx.out] at he
 obtain ⟨_,_,fv,e2,hf⟩:=he
 have hfx:Hier.at' E.f.classes c=x:=atOf hc hx.out
 rw [hfx] at hk
 obtain ⟨fa,fcap,rfl,c3,c4,hfe⟩:=hf
 obtain ⟨fb,fo,rfl,hfb,hfe2⟩:=hfe k hk
 obtain ⟨t,htt⟩:=at_of hk
 rw [htt.out] at hfe2
 obtain ⟨t1,t2,_,_⟩:=hfe2
 have hft:Hid (ftype E.f.classes c k=t):=by
  show _=_
  unfold ftype
  rw [Int.toNat_natCast,Int.toNat_natCast,hfx,List.getD_eq_getElem?_getD,List.getElem?_eq_getElem hk,htt.out];rfl
 rw [hft.out] at hp
 rw [hvc] at b0
 have hci:(c:Int) < E.f.classes.length:=by omega
 have hki:(k:Int) < x.fields.length:=by omega
 have hbs:E.B≤w.heap.size:=by have:=H.base;omega
 have lcb:cb < w.heap.size:=by omega
 have lfb:fb < w.heap.size:=by omega
 have HV:=Lib.hid hv
 have HO:=Lib.hid ho
 have HR:=Lib.hid hr
 clear ho hr
 clear H ht hvc hel hfx hfe hv
 go_enter Tryz.func165,Tryz.ntmps165
 go_wp2
 refine Drawn.hd (fun w'=>w'.cell? ⟨E.hb,0,none⟩=some (.slice (some ⟨cb,co,none⟩) E.f.classes.length ccap)∧w'.cell? ⟨cb,co+c*2+1,none⟩=some (.slice (some ⟨fb,fo,none⟩) x.fields.length fcap)∧w'.cell? ⟨fb,fo+k*2,none⟩=some (.int .i64 t.kind)∧w'.cell? ⟨fb,fo+k*2+1,none⟩=some (.int .i64 t.cls)∧w'.cell? ⟨w.heap.size+1,0,none⟩=some (.int .i64 v.kind)∧w'.cell? ⟨w.heap.size+1,1,none⟩=some (.int .i64 v.n)) (h:=fun hHeld=>?_)
 refine Drawn.T 0 (some 12) (h:=?_)
 refine Drawn.T 1 (some 13) (h:=?_)
 refine Drawn.T 2 (some 14) (h:=?_)
 refine Drawn.T 3 (some 15) (h:=?_)
 refine Drawn.T 4 (some 16) (h:=?_)
 refine Drawn.T 5 (some 17) (h:=?_)
 refine Drawn.T 6 (some 18) (h:=?_)
 refine Drawn.T 7 (some 19) (h:=?_)
 refine Drawn.T 8 (some 20) (h:=?_)
 refine Drawn.T 9 (some 21) (h:=?_)
 refine Drawn.T 10 (some 22) (h:=?_)
 refine Drawn.T 11 (some 23) (h:=?_)
 refine Drawn.T 12 (some 24) (h:=?_)
 refine Drawn.T 13 (some 25) (h:=?_)
 refine Drawn.cl 14 (fun K hK=>?_)
 go_simp
 go_at_call 98
 refine (of E L h d ⟨v.kind,v.n⟩ t _ (HH.out.below (by exact Rd.byB)) hm HV.out).mono ?_
 rw [hp.out]
 rintro e w1 ⟨rfl,hb1⟩
 have kk:∀ (b o:Nat) (u:Value),World.cell? _ ⟨b,o,none⟩=some u→w1.cell? ⟨b,o,none⟩=some u:=fun b o u hc=>kept hb1 (cell_lt hc) hc
 have y0:=kk E.hb 0 (.slice (some ⟨cb,co,none⟩) E.f.classes.length ccap) (by go_simp)
 have y1:=kk cb (co+c*2+1) (.slice (some ⟨fb,fo,none⟩) x.fields.length fcap) (by go_simp)
 have y2:=kk fb (fo+k*2) (.int .i64 t.kind) (by go_simp)
 have y3:=kk fb (fo+k*2+1) (.int .i64 t.cls) (by go_simp)
 have y4:=kk (w.heap.size+1) 0 (.int .i64 v.kind) (by go_simp)
 have y5:=kk (w.heap.size+1) 1 (.int .i64 v.n) (by go_simp)
 have y6:=kk w.heap.size 0 (.int .i64 r.kind) (by go_simp)
 have y7:=kk w.heap.size 1 (.int .i64 r.n) (by go_simp)
 have HB1:=Lib.hid (show Below w.heap.size w w1 from Below.trans (by exact Rd.byB) (hb1.mono (by simp <;> omega)))
 have hz1:w.heap.size+1+1≤w1.heap.size:=by have:=hb1.size;simpa using this
 clear kk hb1
 go_wp2_with fail
 refine Drawn.bk hK (hS:=by (try dsimp only);exact ⟨y0,y1,y2,y3,y4,y5⟩) (h:=fun hHeld=>?_)
 clear hK K
 refine Drawn.cl 15 (fun K hK=>?_)
 go_simp
 refine (mustT _).mono ?_
 rintro e w2 ⟨rfl,rfl⟩
 go_wp2_with fail
 refine Drawn.bk hK (hS:=by (try dsimp only);exact ⟨y0,y1,y2,y3,y4,y5⟩) (h:=fun hHeld=>?_)
 clear hK K
 refine wpAnyH_done (by kernel_rfl) ?_ _
 go_wp2_with (go_at_call 196;refine (fieldStuck (HH.out.below HB1.out) hm ⟨r.kind,r.n⟩ c k HR.out HO.out).mono ?_;rintro e w3 ⟨rfl,A⟩;have A2:=Lib.hid (Lft.before (w:=w) HB1.out A);clear A;unfold pan)
 refine And.intro rfl ?_
 exact ⟨rfl,A2.out⟩
set_option maxRecDepth 100000 in
theorem putNull (H:PH E w L h d) (hm:Hier.may E.f.classes=true) (r v:Vl) (c k:Nat) (hv:v.kind=3→v.n < h.objs.length) (hc:c < E.f.classes.length) (hk:k < (Hier.at' E.f.classes c).fields.length) (ht:ofT E.f.classes h v (ftype E.f.classes c k)=true) (hr:r.kind=3→r.n < h.objs.length) (ho:ofT E.f.classes h r ⟨3,c⟩=true) (hn:r.n < 0) :
  Calls Tryz.prog 165 #[.pointer (some ⟨E.hb,0,none⟩),.agg #[.int .i64 r.kind,.int .i64 r.n],.int .i64 c,.int .i64 k,.agg #[.int .i64 v.kind,.int .i64 v.n]] w fun e w'=>e=pan (raiseV h)∧Lft E L d w w' (raiseH E.f.classes 1 h):=by
 have HH:=Lib.hid H
 have hhb:=H.hbw
 have hp:=Lib.hid ht
 have b0:=H.c0
 obtain ⟨ca,ccap,hvc,c1,c2,hel⟩:=id H.cls
 obtain ⟨cb,co,rfl,hcb,he⟩:=hel c hc
 obtain ⟨x,hx⟩:=at_of hc
 rw [hx.out] at he
 obtain ⟨_,_,fv,e2,hf⟩:=he
 have hfx:Hier.at' E.f.classes c=x:=atOf hc hx.out
 rw [hfx] at hk
 obtain ⟨fa,fcap,rfl,c3,c4,hfe⟩:=hf
 obtain ⟨fb,fo,rfl,hfb,hfe2⟩:=hfe k hk
 obtain ⟨t,htt⟩:=at_of hk
 rw [htt.out] at hfe2
 obtain ⟨t1,t2,_,_⟩:=hfe2
 have hft:Hid (ftype E.f.classes c k=t):=by
  show _=_
  unfold ftype
  rw [Int.toNat_natCast,Int.toNat_natCast,hfx,List.getD_eq_getElem?_getD,List.getElem?_eq_getElem hk,htt.out];rfl
 rw [hft.out] at hp
 rw [hvc] at b0
 have hci:(c:Int) < E.f.classes.length:=by omega
 have hki:(k:Int) < x.fields.length:=by omega
 have hbs:E.B≤w.heap.size:=by have:=H.base;omega
 have lcb:cb < w.heap.size:=by omega
 have lfb:fb < w.heap.size:=by omega
 have HV:=Lib.hid hv
 have HO:=Lib.hid ho
 have HR:=Lib.hid hr
 clear ho hr
 clear H ht hvc hel hfx hfe hv
 go_enter Tryz.func165,Tryz.ntmps165
 go_wp2
 refine Drawn.hd (fun w'=>w'.cell? ⟨E.hb,0,none⟩=some (.slice (some ⟨cb,co,none⟩) E.f.classes.length ccap)∧w'.cell? ⟨cb,co+c*2+1,none⟩=some (.slice (some ⟨fb,fo,none⟩) x.fields.length fcap)∧w'.cell? ⟨fb,fo+k*2,none⟩=some (.int .i64 t.kind)∧w'.cell? ⟨fb,fo+k*2+1,none⟩=some (.int .i64 t.cls)∧w'.cell? ⟨w.heap.size+1,0,none⟩=some (.int .i64 v.kind)∧w'.cell? ⟨w.heap.size+1,1,none⟩=some (.int .i64 v.n)) (h:=fun hHeld=>?_)
 refine Drawn.T 0 (some 12) (h:=?_)
 refine Drawn.T 1 (some 13) (h:=?_)
 refine Drawn.T 2 (some 14) (h:=?_)
 refine Drawn.T 3 (some 15) (h:=?_)
 refine Drawn.T 4 (some 16) (h:=?_)
 refine Drawn.T 5 (some 17) (h:=?_)
 refine Drawn.T 6 (some 18) (h:=?_)
 refine Drawn.T 7 (some 19) (h:=?_)
 refine Drawn.T 8 (some 20) (h:=?_)
 refine Drawn.T 9 (some 21) (h:=?_)
 refine Drawn.T 10 (some 22) (h:=?_)
 refine Drawn.T 11 (some 23) (h:=?_)
 refine Drawn.T 12 (some 24) (h:=?_)
 refine Drawn.T 13 (some 25) (h:=?_)
 refine Drawn.cl 14 (fun K hK=>?_)
 go_simp
 go_at_call 98
 refine (of E L h d ⟨v.kind,v.n⟩ t _ (HH.out.below (by exact Rd.byB)) hm HV.out).mono ?_
 rw [hp.out]
 rintro e w1 ⟨rfl,hb1⟩
 have kk:∀ (b o:Nat) (u:Value),World.cell? _ ⟨b,o,none⟩=some u→w1.cell? ⟨b,o,none⟩=some u:=fun b o u hc=>kept hb1 (cell_lt hc) hc
 have y0:=kk E.hb 0 (.slice (some ⟨cb,co,none⟩) E.f.classes.length ccap) (by go_simp)
 have y1:=kk cb (co+c*2+1) (.slice (some ⟨fb,fo,none⟩) x.fields.length fcap) (by go_simp)
 have y2:=kk fb (fo+k*2) (.int .i64 t.kind) (by go_simp)
 have y3:=kk fb (fo+k*2+1) (.int .i64 t.cls) (by go_simp)
 have y4:=kk (w.heap.size+1) 0 (.int .i64 v.kind) (by go_simp)
 have y5:=kk (w.heap.size+1) 1 (.int .i64 v.n) (by go_simp)
 have y6:=kk w.heap.size 0 (.int .i64 r.kind) (by go_simp)
 have y7:=kk w.heap.size 1 (.int .i64 r.n) (by go_simp)
 have HB1:=Lib.hid (show Below w.heap.size w w1 from Below.trans (by exact Rd.byB) (hb1.mono (by simp <;> omega)))
 have hz1:w.heap.size+1+1≤w1.heap.size:=by have:=hb1.size;simpa using this
 clear kk hb1
 go_wp2_with fail
 refine Drawn.bk hK (hS:=by (try dsimp only);exact ⟨y0,y1,y2,y3,y4,y5⟩) (h:=fun hHeld=>?_)
 clear hK K
 refine Drawn.cl 15 (fun K hK=>?_)
 go_simp
 refine (mustT _).mono ?_
 rintro e w2 ⟨rfl,rfl⟩
 go_wp2_with fail
 refine Drawn.bk hK (hS:=by (try dsimp only);exact ⟨y0,y1,y2,y3,y4,y5⟩) (h:=fun hHeld=>?_)
 clear hK K
 refine wpAnyH_done (by kernel_rfl) ?_ _
 go_wp2_with (go_at_call 196;refine (fieldNull (HH.out.below HB1.out) hm ⟨r.kind,r.n⟩ c k HR.out HO.out hn).mono ?_;rintro e w3 ⟨rfl,A⟩;have A2:=Lib.hid (Lft.before (w:=w) HB1.out A);clear A;unfold pan)
 refine And.intro rfl ?_
 exact ⟨rfl,A2.out⟩
set_option maxRecDepth 100000 in
theorem putOk (H:PH E w L h d) (hm:Hier.may E.f.classes=true) (r v:Vl) (c k:Nat) (hv:v.kind=3→v.n < h.objs.length) (hc:c < E.f.classes.length) (hk:k < (Hier.at' E.f.classes c).fields.length) (ht:ofT E.f.classes h v (ftype E.f.classes c k)=true) (hr3:r.kind=3) (hr0:0≤r.n) (hr1:r.n < h.objs.length) (ho:ofT E.f.classes h r ⟨3,c⟩=true) (hkey:((c:Int),(k:Int))∈(obj h r.n).held.map (·.1)) :
  Calls Tryz.prog 165 #[.pointer (some ⟨E.hb,0,none⟩),.agg #[.int .i64 r.kind,.int .i64 r.n],.int .i64 c,.int .i64 k,.agg #[.int .i64 v.kind,.int .i64 v.n]] w fun e w'=>e=.returned (.tuple #[])∧Lft E L d w w' (putH h r.n (c,k) v):=by
 have HH:=Lib.hid H
 have hhb:=H.hbw
 have hp:=Lib.hid ht
 have b0:=H.c0
 obtain ⟨ca,ccap,hvc,c1,c2,hel⟩:=id H.cls
 obtain ⟨cb,co,rfl,hcb,he⟩:=hel c hc
 obtain ⟨x,hx⟩:=at_of hc
 rw [hx.out] at he
 obtain ⟨_,_,fv,e2,hf⟩:=he
 have hfx:Hier.at' E.f.classes c=x:=atOf hc hx.out
 rw [hfx] at hk
 obtain ⟨fa,fcap,rfl,c3,c4,hfe⟩:=hf
 obtain ⟨fb,fo,rfl,hfb,hfe2⟩:=hfe k hk
 obtain ⟨t,htt⟩:=at_of hk
 rw [htt.out] at hfe2
 obtain ⟨t1,t2,_,_⟩:=hfe2
 have hft:Hid (ftype E.f.classes c k=t):=by
  show _=_
  unfold ftype
  rw [Int.toNat_natCast,Int.toNat_natCast,hfx,List.getD_eq_getElem?_getD,List.getElem?_eq_getElem hk,htt.out];rfl
 rw [hft.out] at hp
 rw [hvc] at b0
 have hci:(c:Int) < E.f.classes.length:=by omega
 have hki:(k:Int) < x.fields.length:=by omega
 have hbs:E.B≤w.heap.size:=by have:=H.base;omega
 have lcb:cb < w.heap.size:=by omega
 have lfb:fb < w.heap.size:=by omega
 have HV:=Lib.hid hv
 obtain ⟨kr,n⟩:=r
 simp only at hr3 hr0 hr1 hkey
 subst hr3
 obtain ⟨g,cap,hvb,d1,d2,hg,hgne,o0,o1⟩:=H.ob hr0 hr1
 obtain ⟨mr,es,cc,pm,hrr,hrw,hrne,m1,m2,m3,_⟩:=H.mp hr0 hr1
 rw [hrr] at o1
 obtain ⟨es',c',pm',u1,u2,u3⟩:=upd_run mr cc m2 ((c:Int),(k:Int)) v
 have hMI:=Lib.hid (mapIs_become u2 u3 m3 hkey)
 have U1:Hid (∀ w2:World,w2.heap[mr]? = some (.map es cc)→(Instr.mapUpdate 91 (.map (some mr)) (.agg #[.int .i64 c,.int .i64 k]) (.agg #[.int .i64 v.kind,.int .i64 v.n])).run Tryz.prog w2=.ok () (w2.putObj mr (.map es' c'))):=u1
 have HO:=Lib.hid ho
 have HVB:=Lib.hid hvb
 have HRR:=Lib.hid hrr
 clear ho hvb u1 u2 u3 m2 m3 hkey hrr
 clear H ht hvc hel hfx hfe hv
 go_enter Tryz.func165,Tryz.ntmps165
 go_wp2
 refine Drawn.hd (fun w'=>w'.cell? ⟨E.hb,0,none⟩=some (.slice (some ⟨cb,co,none⟩) E.f.classes.length ccap)∧w'.cell? ⟨cb,co+c*2+1,none⟩=some (.slice (some ⟨fb,fo,none⟩) x.fields.length fcap)∧w'.cell? ⟨fb,fo+k*2,none⟩=some (.int .i64 t.kind)∧w'.cell? ⟨fb,fo+k*2+1,none⟩=some (.int .i64 t.cls)∧w'.cell? ⟨w.heap.size+1,0,none⟩=some (.int .i64 v.kind)∧w'.cell? ⟨w.heap.size+1,1,none⟩=some (.int .i64 v.n)) (h:=fun hHeld=>?_)
 refine Drawn.T 0 (some 12) (h:=?_)
 refine Drawn.T 1 (some 13) (h:=?_)
 refine Drawn.T 2 (some 14) (h:=?_)
 refine Drawn.T 3 (some 15) (h:=?_)
 refine Drawn.T 4 (some 16) (h:=?_)
 refine Drawn.T 5 (some 17) (h:=?_)
 refine Drawn.T 6 (some 18) (h:=?_)
 refine Drawn.T 7 (some 19) (h:=?_)
 refine Drawn.T 8 (some 20) (h:=?_)
 refine Drawn.T 9 (some 21) (h:=?_)
 refine Drawn.T 10 (some 22) (h:=?_)
 refine Drawn.T 11 (some 23) (h:=?_)
 refine Drawn.T 12 (some 24) (h:=?_)
 refine Drawn.T 13 (some 25) (h:=?_)
 refine Drawn.cl 14 (fun K hK=>?_)
 go_simp
 go_at_call 98
 refine (of E L h d ⟨v.kind,v.n⟩ t _ (HH.out.below (by exact Rd.byB)) hm HV.out).mono ?_
 rw [hp.out]
 rintro e w1 ⟨rfl,hb1⟩
 have kk:∀ (b o:Nat) (u:Value),World.cell? _ ⟨b,o,none⟩=some u→w1.cell? ⟨b,o,none⟩=some u:=fun b o u hc=>kept hb1 (cell_lt hc) hc
 have y0:=kk E.hb 0 (.slice (some ⟨cb,co,none⟩) E.f.classes.length ccap) (by go_simp)
 have y1:=kk cb (co+c*2+1) (.slice (some ⟨fb,fo,none⟩) x.fields.length fcap) (by go_simp)
 have y2:=kk fb (fo+k*2) (.int .i64 t.kind) (by go_simp)
 have y3:=kk fb (fo+k*2+1) (.int .i64 t.cls) (by go_simp)
 have y4:=kk (w.heap.size+1) 0 (.int .i64 v.kind) (by go_simp)
 have y5:=kk (w.heap.size+1) 1 (.int .i64 v.n) (by go_simp)
 have y6:=kk w.heap.size 0 (.int .i64 3) (by go_simp)
 have y7:=kk w.heap.size 1 (.int .i64 n) (by go_simp)
 have HB1:=Lib.hid (show Below w.heap.size w w1 from Below.trans (by exact Rd.byB) (hb1.mono (by simp <;> omega)))
 have hz1:w.heap.size+1+1≤w1.heap.size:=by have:=hb1.size;simpa using this
 clear kk hb1
 go_wp2_with fail
 refine Drawn.bk hK (hS:=by (try dsimp only);exact ⟨y0,y1,y2,y3,y4,y5⟩) (h:=fun hHeld=>?_)
 clear hK K
 refine Drawn.cl 15 (fun K hK=>?_)
 go_simp
 refine (mustT _).mono ?_
 rintro e w2 ⟨rfl,rfl⟩
 go_wp2_with fail
 refine Drawn.bk hK (hS:=by (try dsimp only);exact ⟨y0,y1,y2,y3,y4,y5⟩) (h:=fun hHeld=>?_)
 clear hK K
 refine wpAnyH_done (by kernel_rfl) ?_ _
 have hb:=HB1.out
 have y8:w1.cell? ⟨g,n.toNat*2+1,none⟩=some (.map (some mr)):=kept hb hg o1
 go_wp2_with (go_at_call 196;refine (fieldOk (HH.out.below HB1.out) hm n c k hr1 HO.out hr0 HVB.out d1).mono ?_;rintro e w3 ⟨rfl,hb3⟩;have z8:=kept hb3 (cell_lt y8) y8;have z4:=kept hb3 (cell_lt y4) y4;have z5:=kept hb3 (cell_lt y5) y5;have HB3:=Lib.hid (hb.trans (hb3.mono hb.size));have hz3:w.heap.size+1+1≤w3.heap.size:=Nat.le_trans hz1 hb3.size;clear hb3)
 have m1':w3.heap[mr]? = some (.map es cc):=(HB3.out.block mr hrw).trans m1
 have yu:=U1.out (w3.alloc (.cells #[.int .i64 c,.int .i64 k] 263)).drew ((Below.heap_alloc _ _ _ (by omega)).trans m1')
 have hsz2:w.heap.size+1 < w3.heap.size:=by omega
 have hsz3:g < w3.heap.size:=cell_lt z8
 have hsz4:w.heap.size+1 < w3.heap.size+1:=by omega
 have hsz5:g < w3.heap.size+1:=by omega
 have hb3:=HB3.out
 clear y0 y1 y2 y3 y4 y5 y6 y7 y8 hb o0 o1 b0 e2 t1 t2
 go_region
 all_goals
  go_end0
  exact ⟨rfl,PH.setMap (W:=(w3.alloc (.cells #[.int .i64 c,.int .i64 k] 263)).drew) (o:=⟨(obj h n).cls,become (obj h n).held ((c:Int),(k:Int)) v⟩) HH.out (by exact Rd.byB) hr0 hr1 rfl HRR.out hMI.out⟩
theorem putP (H:PH E w L h d) (hm:Hier.may E.f.classes=true) (HO:HpOk E.f.classes E.input E.fuel h) (r v:Vl) (c k:Int) (hr:VlOk h.objs.length r) (hv:VlOk h.objs.length v) (hc:0≤c∧c < E.f.classes.length) (hk:0≤k∧k < ((Hier.at' E.f.classes c.toNat).fields.length:Int)) :
  Calls Tryz.prog 165 #[.pointer (some ⟨E.hb,0,none⟩),.agg #[.int .i64 r.kind,.int .i64 r.n],.int .i64 c,.int .i64 k,.agg #[.int .i64 v.kind,.int .i64 v.n]] w (PanR E L d w (fun _=>.tuple #[]) (Run.put E.f.classes r c k v (ftype E.f.classes c k) h)):=by
 obtain ⟨c,rfl⟩:=Int.eq_ofNat_of_zero_le hc.1
 obtain ⟨k,rfl⟩:=Int.eq_ofNat_of_zero_le hk.1
 have hc1:c < E.f.classes.length:=by omega
 have hk1:k < (Hier.at' E.f.classes c).fields.length:=by have:=hk.2;rw [Int.toNat_natCast] at this;omega
 have hv3:v.kind=3→v.n < h.objs.length:=fun e=>(hv.2.2.2 e).2
 have hr3:r.kind=3→r.n < h.objs.length:=fun e=>(hr.2.2.2 e).2
 by_cases ht:ofT E.f.classes h v (ftype E.f.classes c k)=true
 ·by_cases ho:ofT E.f.classes h r ⟨3,c⟩=true
  ·obtain ⟨h3,h4⟩:=of_ref ho
   by_cases hn:r.n < 0
   ·rw [put_raise ht ho hn]
    refine (putNull H hm r v c k hv3 hc1 hk1 ht hr3 ho hn).mono ?_
    rintro e w' ⟨rfl,A⟩
    exact panR_raise A
   ·rw [put_okU ht ho hn]
    have hvn:=hr.2.2.2 h3
    have hO:=HO.obs _ (obj_mem (h:=h) (n:=r.n) (by omega) (by omega))
    have hi:Hier.is E.f.classes (obj h r.n).cls c=true:=by
                                                                     rcases h4 with h4 | h4;· omega
                                                                     · exact h4
    have hmem:=fresh_has hc hi hk
    rw [← hO.keys] at hmem
    refine (putOk H hm r v c k hv3 hc1 hk1 ht h3 (by omega) hvn.2 ho hmem).mono ?_
    rintro e w' ⟨rfl,A⟩
    exact ⟨rfl,A⟩
  ·have ho2:ofT E.f.classes h r ⟨3,c⟩=false:=by simpa using ho
   rw [put_stuck ht ho2]
   refine (putStuck H hm r v c k hv3 hc1 hk1 ht hr3 ho2).mono ?_
   rintro e w' ⟨rfl,A⟩
   exact ⟨rfl,A⟩
 ·have ht2:ofT E.f.classes h v (ftype E.f.classes c k)=false:=by simpa using ht
  rw [put_type ht2]
  refine (putType H hm r v c k hv3 hc1 hk1 ht2).mono ?_
  rintro e w' ⟨rfl,A⟩
  exact ⟨rfl,A⟩
end
end Hpw
namespace Hpw
open Num Rd D Run Mem HierW
section
variable {E:Ev}{w w' wr W w2:World}{L L':Lay}{h h':Hp}{d:Nat}
def unitV (_:Unit):Value:=.tuple #[]
set_option maxRecDepth 100000 in
theorem castP (H:PH E w L h d) (hm:Hier.may E.f.classes=true) (v:Vl) (c:Int) (hv:v.kind=3→v.n < h.objs.length) :
  Calls Tryz.prog 166 #[.pointer (some ⟨E.hb,0,none⟩),.agg #[.int .i64 v.kind,.int .i64 v.n],.int .i64 c] w (PanR E L d w unitV (Run.cast E.f.classes v c h)):=by
 have HH:=Lib.hid H
 obtain ⟨kd,n⟩:=v
 by_cases q:kd=3
 ·subst q
  have hv1:n < h.objs.length:=hv rfl
  by_cases ho:ofT E.f.classes h ⟨3,n⟩ ⟨3,c⟩=true
  ·have hr:Hid (Run.cast E.f.classes ⟨3,n⟩ c h=.ok () h):=by show _=_;unfold Run.cast;rw [if_neg (by simp),if_neg (by rw [ho];simp)]
   rw [hr.out]
   have HO:=Lib.hid ho
   clear H ho hv
   go_enter Tryz.func166,Tryz.ntmps166
   go_wp2_with (first | (go_at_call 98;refine (of E L h d ⟨3,n⟩ ⟨3,c⟩ _ (HH.out.below (by exact Rd.byB)) hm (fun _=>hv1)).mono ?_;rw [HO.out];rintro e w1 ⟨rfl,hb1⟩;have HB1:=Lib.hid (show Below w.heap.size w w1 from Below.trans (by exact Rd.byB) (hb1.mono (by simp <;> omega)));clear hb1) | (go_at_call 97;refine (mustT _).mono ?_;rintro e w2 ⟨rfl,rfl⟩))
   go_end0
   exact ⟨rfl,Lft.of_below HH.out HB1.out⟩
  ·have ho2:ofT E.f.classes h ⟨3,n⟩ ⟨3,c⟩=false:=by simpa using ho
   have hr:Hid (Run.cast E.f.classes ⟨3,n⟩ c h=raise E.f.classes 3 h):=by show _=_;unfold Run.cast;rw [if_neg (by simp),if_pos ho2]
   rw [hr.out]
   have HO:=Lib.hid ho2
   clear H ho hv ho2
   go_enter Tryz.func166,Tryz.ntmps166
   go_wp2_with (first | (go_at_call 98;refine (of E L h d ⟨3,n⟩ ⟨3,c⟩ _ (HH.out.below (by exact Rd.byB)) hm (fun _=>hv1)).mono ?_;rw [HO.out];rintro e w1 ⟨rfl,hb1⟩;have HB1:=Lib.hid (show Below w.heap.size w w1 from Below.trans (by exact Rd.byB) (hb1.mono (by simp <;> omega)));clear hb1) | (go_at_call 97;refine (mustT _).mono ?_;rintro e w2 ⟨rfl,rfl⟩) | (go_at_call 155;refine (raiseP (HH.out.below HB1.out) hm 3).mono ?_;rintro e w2 ⟨rfl,A⟩;replace A:=Lib.hid A))
   refine And.intro rfl ?_
   exact panR_raise (Lft.before HB1.out A.out)
 ·have hr:Hid (Run.cast E.f.classes ⟨kd,n⟩ c h=.stop 6 h):=by show _=_;unfold Run.cast;rw [if_pos q]
  rw [hr.out]
  have qb:(kd==3)=false:=by simpa using q
  clear H q hv
  go_enter Tryz.func166,Tryz.ntmps166
  go_wp2_with (go_at_call 97;refine (mustF _).mono ?_;rintro e w2 ⟨rfl,rfl⟩)
  refine And.intro rfl ?_
  exact ⟨rfl,Lft.of_below HH.out Rd.byB⟩
set_option maxRecDepth 100000 in
theorem isP (H:PH E w L h d) (hm:Hier.may E.f.classes=true) (v:Vl) (c:Int) (hv:v.kind=3→v.n < h.objs.length) :
  Calls Tryz.prog 167 #[.pointer (some ⟨E.hb,0,none⟩),.agg #[.int .i64 v.kind,.int .i64 v.n],.int .i64 c] w (PanR E L d w vval (Run.isV E.f.classes v c h)):=by
 have HH:=Lib.hid H
 have hhb:=H.hbw
 obtain ⟨kd,n⟩:=v
 by_cases q:kd=3
 ·subst q
  have hv1:n < h.objs.length:=hv rfl
  by_cases hn:n < 0
  ·have hr:Hid (Run.isV E.f.classes ⟨3,n⟩ c h=.ok ⟨1,0⟩ h):=by show _=_;unfold Run.isV;rw [if_neg (by simp)];simp only;rw [if_neg (fun h=>by omega)]
   rw [hr.out]
   have hd1:decide (0≤n)=false:=by simp;omega
   clear H hv hn
   go_enter Tryz.func167,Tryz.ntmps167
   go_wp2_with (go_at_call 97;refine (mustT _).mono ?_;rintro e w2 ⟨rfl,rfl⟩)
   go_quiet (fail)
   go_wp2
   refine bodyPost_ret (v:=.agg #[.int .i64 1,.int .i64 0]) (by simp [results,Tryz.results167,go_sem] <;> go_simp) rfl ?_
   exact ⟨rfl,Lft.of_below HH.out Rd.byB⟩
  ·have hn0:0≤n:=by omega
   obtain ⟨g,cap,hvb,c1,c2,hg,hgne,o0,o1⟩:=H.ob hn0 hv1
   have b0:=H.c0
   have b8:=H.c8
   rw [hvb] at b8
   obtain ⟨ca,ccap,hvc,_⟩:=id H.cls
   have hC:Cs w E.vc E.f.classes:=H.cls.mono mCls (Below.refl _ _) (Nat.le_of_lt (Nat.lt_of_le_of_lt H.base.1 hhb))
   have HC:=Lib.hid hC
   have hwf:=Lib.hid (Hier.wf_of_may hm)
   rw [hvc] at b0 HC
   have hlt2:n.toNat < h.objs.length:=by omega
   have hd1:decide (0≤n)=true:=by simp;omega
   obtain ⟨p,hp⟩:∃ p,Hid (Hier.is E.f.classes (obj h n).cls c=p):=⟨_,Lib.hid rfl⟩
   obtain ⟨pv,hpv⟩:∃ pv:Int,Hid ((if p=true then 1 else 0)=pv):=⟨_,Lib.hid rfl⟩
   have hr:Hid (Run.isV E.f.classes ⟨3,n⟩ c h=.ok ⟨1,pv⟩ h):=by show _=_;rw [← hpv.out];unfold Run.isV;rw [if_neg (by simp)];simp only;rw [hp.out];simp [hn0]
   rw [hr.out]
   clear H hv hn hvc hvb hC
   go_enter Tryz.func167,Tryz.ntmps167
   go_wp2_with (go_at_call 97;refine (mustT _).mono ?_;rintro e w2 ⟨rfl,rfl⟩)
   refine Drawn.hd (fun w'=>w'.cell? ⟨E.hb,0,none⟩=some (.slice ca E.f.classes.length ccap)∧w'.cell? ⟨E.hb,8,none⟩=some (.slice (some ⟨g,0,none⟩) h.objs.length cap)∧w'.cell? ⟨g,n.toNat*2,none⟩=some (.int .i64 (obj h n).cls)∧w'.cell? ⟨w.heap.size,1,none⟩=some (.int .i64 n)) (h:=fun hHeld=>?_)
   refine Drawn.T 0 (some 11) (h:=?_)
   refine Drawn.T 1 (some 12) (h:=?_)
   refine Drawn.T 2 (some 13) (h:=?_)
   refine Drawn.T 3 (some 14) (h:=?_)
   refine Drawn.T 4 (some 15) (h:=?_)
   refine Drawn.T 5 (some 16) (h:=?_)
   refine Drawn.T 6 (some 17) (h:=?_)
   refine Drawn.T 7 (some 18) (h:=?_)
   refine Drawn.T 8 (some 19) (h:=?_)
   refine Drawn.T 9 (some 20) (h:=?_)
   refine Drawn.T 10 (some 21) (h:=?_)
   refine Drawn.T 11 (some 22) (h:=?_)
   refine Drawn.T 12 (some 23) (h:=?_)
   refine Drawn.T 13 (some 24) (h:=?_)
   refine Drawn.T 14 (some 25) (h:=?_)
   refine Drawn.T 15 (some 26) (h:=?_)
   refine Drawn.T 16 (some 27) (h:=?_)
   refine Drawn.T 17 (some 28) (h:=?_)
   refine Drawn.T 18 (some 29) (h:=?_)
   refine Drawn.cl 19 (fun K hK=>?_)
   go_simp
   go_at_call 152
   refine (UpW.is _ E.f.classes (obj h n).cls c _ (HC.out.next (by exact Rd.byB)) hwf.out).mono ?_
   rw [hp.out]
   rintro e w1 ⟨rfl,hb1⟩
   have kk:∀ (b o:Nat) (u:Value),World.cell? _ ⟨b,o,none⟩=some u→w1.cell? ⟨b,o,none⟩=some u:=fun b o u hc=>kept hb1 (cell_lt hc) hc
   have kf:∀ (b o:Nat) (x:Bool),b < (World.heap _).size→World.frozen? _ ⟨b,o,none⟩=x→w1.frozen? ⟨b,o,none⟩=x:=fun b o x hl hc=>frz_kept hb1 hl hc
   have y0:=kk E.hb 0 (.slice ca E.f.classes.length ccap) (by go_simp)
   have y1:=kk E.hb 8 (.slice (some ⟨g,0,none⟩) h.objs.length cap) (by go_simp)
   have y2:=kk g (n.toNat*2) (.int .i64 (obj h n).cls) (by go_simp)
   have y4:=kk w.heap.size 1 (.int .i64 n) (by go_simp)
   have y5:=kk (w.heap.size+1) 0 (.int .i64 0) (by go_simp)
   have y6:=kk (w.heap.size+1) 1 (.int .i64 0) (by go_simp)
   have y7:=kf (w.heap.size+1) 0 false (by simp) (by go_simp)
   have y8:=kf (w.heap.size+1) 1 false (by simp) (by go_simp)
   have HB1:=Lib.hid (show Below w.heap.size w w1 from Below.trans (by exact Rd.byB) (hb1.mono (by simp <;> omega)))
   clear kk kf hb1
   go_wp2_with fail
   refine Drawn.bk hK (hS:=by (try dsimp only);exact ⟨y0,y1,y2,y4⟩) (h:=fun hHeld=>?_)
   clear hK K
   refine Drawn.T 20 (some 31) (h:=?_)
   refine wpAnyH_done (by kernel_rfl) ?_ _
   go_wp2_with fail
   ·refine bodyPost_ret (v:=.agg #[.int .i64 1,.int .i64 1]) (by simp [results,Tryz.results167,go_sem] <;> go_simp) rfl ?_
    have hb:=HB1.out
    have e1:=hpv.out
    rw [if_pos (by assumption)] at e1
    subst e1
    exact ⟨rfl,Lft.of_below HH.out Rd.byB⟩
   ·refine bodyPost_ret (v:=.agg #[.int .i64 1,.int .i64 0]) (by simp [results,Tryz.results167,go_sem] <;> go_simp) rfl ?_
    have hb:=HB1.out
    have e1:=hpv.out
    rw [if_neg (by first | assumption | simp_all)] at e1
    subst e1
    exact ⟨rfl,Lft.of_below HH.out Rd.byB⟩
 ·have hr:Hid (Run.isV E.f.classes ⟨kd,n⟩ c h=.stop 6 h):=by show _=_;unfold Run.isV;rw [if_pos q]
  rw [hr.out]
  have qb:(kd==3)=false:=by simpa using q
  clear H q hv
  go_enter Tryz.func167,Tryz.ntmps167
  go_wp2_with (go_at_call 97;refine (mustF _).mono ?_;rintro e w2 ⟨rfl,rfl⟩)
  refine And.intro rfl ?_
  exact ⟨rfl,Lft.of_below HH.out Rd.byB⟩
set_option maxRecDepth 100000 in
theorem reckonI (H:PH E w L h d) (hm:Hier.may E.f.classes=true) (a b:Vl) (op:Int) (hok:Ok a.n) :
  Calls Tryz.prog 192 #[.pointer (some ⟨E.hb,0,none⟩),.agg #[.int .i64 a.kind,.int .i64 a.n],.agg #[.int .i64 b.kind,.int .i64 b.n],.int .i64 1,.int .i64 op,.func (.func 159) #[] #[]] w (PanR E L d w vval (Run.reckon E.f.classes a b 1 op h)):=by
 have HH:=Lib.hid H
 obtain ⟨ak,an⟩:=a
 obtain ⟨bk,bn⟩:=b
 by_cases q1:ak=1
 ·by_cases q2:bk=1
  ·subst q1 q2
   obtain ⟨⟨x,o⟩,hx⟩:∃ x,Hid (Num.int op an bn=x):=⟨_,Lib.hid rfl⟩
   have hno:Hid (numOf 1 op an bn=(x,o)):=by show _=_;unfold numOf;first | rw [if_pos rfl,hx.out] | rw [if_neg (by decide),hx.out]
   cases o
   ·have hr:Hid (Run.reckon E.f.classes ⟨1,an⟩ ⟨1,bn⟩ 1 op h=raise E.f.classes 2 h):=by show _=_;unfold Run.reckon;rw [if_neg (by simp)];simp only;rw [hno.out];simp
    rw [hr.out]
    clear H
    go_enter Tryz.func192,Tryz.ntmps192
    go_wp2_with (first | (go_at_call 97;refine (mustT _).mono ?_;rintro e w2 ⟨rfl,rfl⟩) | (go_at_call 159;refine (NumW.int op an bn _).mono ?_;rw [hx.out];rintro e w2 ⟨rfl,rfl⟩) | (go_at_call 155;refine (raiseP (HH.out.below (by exact Rd.byB)) hm 2).mono ?_;rintro e w2 ⟨rfl,A⟩;replace A:=Lib.hid (Lft.before (w:=w) (by exact Rd.byB) A)))
    refine And.intro rfl ?_
    exact panR_raise A.out
   ·have hr:Hid (Run.reckon E.f.classes ⟨1,an⟩ ⟨1,bn⟩ 1 op h=.ok ⟨1,x⟩ h):=by show _=_;unfold Run.reckon;rw [if_neg (by simp)];simp only;rw [hno.out];simp
    rw [hr.out]
    clear H
    go_enter Tryz.func192,Tryz.ntmps192
    go_wp2_with (first | (go_at_call 97;refine (mustT _).mono ?_;rintro e w2 ⟨rfl,rfl⟩) | (go_at_call 159;refine (NumW.int op an bn _).mono ?_;rw [hx.out];rintro e w2 ⟨rfl,rfl⟩))
    refine bodyPost_ret (v:=.agg #[.int .i64 1,.int .i64 x]) (by simp [results,Tryz.results192,go_sem] <;> go_simp) rfl ?_
    exact ⟨rfl,Lft.of_below HH.out Rd.byB⟩
  ·have hr:Hid (Run.reckon E.f.classes ⟨ak,an⟩ ⟨bk,bn⟩ 1 op h=.stop 6 h):=by show _=_;unfold Run.reckon;rw [if_pos (.inr q2)]
   rw [hr.out]
   subst q1
   have qb:(bk==1)=false:=by simpa using q2
   clear H q2
   go_enter Tryz.func192,Tryz.ntmps192
   go_wp2_with (go_at_call 97;refine (mustF _).mono ?_;rintro e w2 ⟨rfl,rfl⟩)
   refine And.intro rfl ?_
   exact ⟨rfl,Lft.of_below HH.out Rd.byB⟩
 ·have hr:Hid (Run.reckon E.f.classes ⟨ak,an⟩ ⟨bk,bn⟩ 1 op h=.stop 6 h):=by show _=_;unfold Run.reckon;rw [if_pos (.inl q1)]
  rw [hr.out]
  have qb:(ak==1)=false:=by simpa using q1
  clear H q1
  go_enter Tryz.func192,Tryz.ntmps192
  go_wp2_with (go_at_call 97;refine (mustF _).mono ?_;rintro e w2 ⟨rfl,rfl⟩)
  refine And.intro rfl ?_
  exact ⟨rfl,Lft.of_below HH.out Rd.byB⟩
set_option maxRecDepth 100000 in
theorem reckonL (H:PH E w L h d) (hm:Hier.may E.f.classes=true) (a b:Vl) (op:Int) (hok:Ok a.n) :
  Calls Tryz.prog 192 #[.pointer (some ⟨E.hb,0,none⟩),.agg #[.int .i64 a.kind,.int .i64 a.n],.agg #[.int .i64 b.kind,.int .i64 b.n],.int .i64 2,.int .i64 op,.func (.func 160) #[] #[]] w (PanR E L d w vval (Run.reckon E.f.classes a b 2 op h)):=by
 have HH:=Lib.hid H
 obtain ⟨ak,an⟩:=a
 obtain ⟨bk,bn⟩:=b
 by_cases q1:ak=2
 ·by_cases q2:bk=2
  ·subst q1 q2
   obtain ⟨⟨x,o⟩,hx⟩:∃ x,Hid (Num.long op an bn=x):=⟨_,Lib.hid rfl⟩
   have hno:Hid (numOf 2 op an bn=(x,o)):=by show _=_;unfold numOf;first | rw [if_pos rfl,hx.out] | rw [if_neg (by decide),hx.out]
   cases o
   ·have hr:Hid (Run.reckon E.f.classes ⟨2,an⟩ ⟨2,bn⟩ 2 op h=raise E.f.classes 2 h):=by show _=_;unfold Run.reckon;rw [if_neg (by simp)];simp only;rw [hno.out];simp
    rw [hr.out]
    clear H
    go_enter Tryz.func192,Tryz.ntmps192
    go_wp2_with (first | (go_at_call 97;refine (mustT _).mono ?_;rintro e w2 ⟨rfl,rfl⟩) | (go_at_call 160;refine (NumW.long op an bn _ hok).mono ?_;rw [hx.out];rintro e w2 ⟨rfl,rfl⟩) | (go_at_call 155;refine (raiseP (HH.out.below (by exact Rd.byB)) hm 2).mono ?_;rintro e w2 ⟨rfl,A⟩;replace A:=Lib.hid (Lft.before (w:=w) (by exact Rd.byB) A)))
    refine And.intro rfl ?_
    exact panR_raise A.out
   ·have hr:Hid (Run.reckon E.f.classes ⟨2,an⟩ ⟨2,bn⟩ 2 op h=.ok ⟨2,x⟩ h):=by show _=_;unfold Run.reckon;rw [if_neg (by simp)];simp only;rw [hno.out];simp
    rw [hr.out]
    clear H
    go_enter Tryz.func192,Tryz.ntmps192
    go_wp2_with (first | (go_at_call 97;refine (mustT _).mono ?_;rintro e w2 ⟨rfl,rfl⟩) | (go_at_call 160;refine (NumW.long op an bn _ hok).mono ?_;rw [hx.out];rintro e w2 ⟨rfl,rfl⟩))
    refine bodyPost_ret (v:=.agg #[.int .i64 2,.int .i64 x]) (by simp [results,Tryz.results192,go_sem] <;> go_simp) rfl ?_
    exact ⟨rfl,Lft.of_below HH.out Rd.byB⟩
  ·have hr:Hid (Run.reckon E.f.classes ⟨ak,an⟩ ⟨bk,bn⟩ 2 op h=.stop 6 h):=by show _=_;unfold Run.reckon;rw [if_pos (.inr q2)]
   rw [hr.out]
   subst q1
   have qb:(bk==2)=false:=by simpa using q2
   clear H q2
   go_enter Tryz.func192,Tryz.ntmps192
   go_wp2_with (go_at_call 97;refine (mustF _).mono ?_;rintro e w2 ⟨rfl,rfl⟩)
   refine And.intro rfl ?_
   exact ⟨rfl,Lft.of_below HH.out Rd.byB⟩
 ·have hr:Hid (Run.reckon E.f.classes ⟨ak,an⟩ ⟨bk,bn⟩ 2 op h=.stop 6 h):=by show _=_;unfold Run.reckon;rw [if_pos (.inl q1)]
  rw [hr.out]
  have qb:(ak==2)=false:=by simpa using q1
  clear H q1
  go_enter Tryz.func192,Tryz.ntmps192
  go_wp2_with (go_at_call 97;refine (mustF _).mono ?_;rintro e w2 ⟨rfl,rfl⟩)
  refine And.intro rfl ?_
  exact ⟨rfl,Lft.of_below HH.out Rd.byB⟩
end
end Hpw
namespace Run
open D Num
inductive Out (Fr:Type) where
 | go (fr:Fr) (h:Hp)
 | back (v:Vl) (h:Hp)
 | thrown (o:Nat) (h:Hp)
 | stop (e:Int) (h:Hp)
section
variable {Fr:Type}
def outC (M:Mach Fr) (m callee:Me) (fr:Fr):Res Vl→Out Fr
 | .stop e h=>.stop e h
 | .thrown o h=>.thrown o h
 | .ok v h=>match M.resume m callee fr v with
  | none=>.stop 6 h
  | some fr=>.go fr h
def outA (M:Mach Fr) (f:Fi) (input:List Int) (fuel g d:Nat) (m:Me):Act Fr→Out Fr
 | .go fr h=>.go fr h
 | .back v h=>.back v h
 | .thrown o h=>.thrown o h
 | .stop e h=>.stop e h
 | .call k args fr h=>outC M m (meAt f k) fr (call M f input fuel g d (meAt f k) args h)
def outS (M:Mach Fr) (f:Fi) (input:List Int) (fuel g d:Nat) (m:Me) (fr:Fr) (h:Hp):Out Fr :=
 if fuel≤h.steps then .stop 0 h
 else match m.code[M.at_ fr]? with
  | none=>.stop 6 { h with steps:=h.steps+1 }
  | some i=>outA M f input fuel g d m (M.step f input m i fr { h with steps:=h.steps+1 })
def SameFrame (M:Mach Fr):Prop:=∀ f input m i fr h k args fr' h',M.step f input m i fr h=.call k args fr' h'→∀ f m o h,after M f m fr' o h=after M f m fr o h
theorem loop_out {M:Mach Fr}(hM:SameFrame M) (f:Fi) (input:List Int) (fuel g d:Nat) (m:Me) (fr:Fr) (h:Hp) :
  loop M f input fuel (g+1) d m fr h=match outS M f input fuel g d m fr h with
   | .stop e h=>.stop e h
   | .back v h=>.ok v h
   | .go fr h=>loop M f input fuel g d m fr h
   | .thrown o h=>match after M f m fr o h with
    | .go fr=>loop M f input fuel g d m fr h
    | .thrown=>.thrown o h
    | .stuck=>.stop 6 h:=by
 unfold outS
 rw [loop]
 split
 ·rfl
 ·cases hi:m.code[M.at_ fr]? with
  | none=>rfl
  | some i =>
   simp only
   cases hst:M.step f input m i fr { h with steps:=h.steps+1 } with
   | go fr h=>rfl
   | back v h=>rfl
   | thrown o h=>rfl
   | stop e h=>rfl
   | call k args fr' h' =>
    have hA:=hM _ _ _ _ _ _ _ _ _ _ hst
    simp only [outA,call]
    cases allOf f.classes h' args (meAt f k).params
    ·rfl
    ·simp only [Bool.true_eq_false,if_false]
     by_cases hd:20≤d
     ·simp only [hd,if_true];rfl
     ·simp only [hd,if_false]
      cases hl:loop M f input fuel g (d+1) (meAt f k) (M.enter (meAt f k) args) h' with
      | stop e h=>rfl
      | thrown o h=>simp only [outC,hA];cases after M f m fr o h <;> rfl
      | ok v h =>
       simp only [outC]
       cases M.resume m (meAt f k) fr' v <;> rfl
end
theorem pop1_call {fr:Sf}{h:Hp}{K:Vl→List Vl→Act Sf}{k:Nat}{args:List Vl}{fr':Sf}{h':Hp}(hK:∀ v st,K v st≠.call k args fr' h'):pop1 fr h K≠.call k args fr' h':=by
 unfold pop1;split
 ·intro e;cases e
 ·exact hK _ _
theorem act_call {α Fr:Type}{r:Res α}{K:α→Hp→Act Fr}{k:Nat}{args:List Vl}{fr':Fr}{h':Hp}(hK:∀ v h,K v h≠.call k args fr' h'):r.act K≠.call k args fr' h':=by
 cases r with
 | ok a h=>exact hK a h
 | thrown o h=>intro e;cases e
 | stop e h=>intro e;cases e
theorem push_call {m:Me}{fr:Sf}{st:List Vl}{v:Vl}{h:Hp}{k:Nat}{args:List Vl}{fr':Sf}{h':Hp}:push m fr st v h≠.call k args fr' h':=by
 unfold push;split <;> (intro e;cases e)
theorem kindly_call {v:Vl}{kd:Int}{h:Hp}{A:Act Sf}{k:Nat}{args:List Vl}{fr':Sf}{h':Hp}(hA:A≠.call k args fr' h'):kindly v kd h A≠.call k args fr' h':=by
 unfold kindly;split
 ·exact hA
 ·intro e;cases e
theorem sstep_call {f:Fi}{input:List Int}{m:Me}{i:Ins}{fr:Sf}{h:Hp}{k:Nat}{args:List Vl}{fr':Sf}{h':Hp}(he:sstep f input m i fr h=.call k args fr' h'):i.op=19∧fr'.at_=fr.at_∧fr'.loc=fr.loc:=by
 by_cases q:i.op=19
 ·refine ⟨q,?_⟩
  unfold sstep at he
  repeat rw [if_neg (by omega)] at he
  rw [if_pos q] at he
  unfold s19 at he
  split at he
  ·cases he
  ·injection he with _ _ e _
   subst e;exact ⟨rfl,rfl⟩
 ·exfalso
  revert he
  unfold sstep
  by_cases q1:i.op=1
  ·rw [if_pos q1];exact push_call
  rw [if_neg q1]
  by_cases q2:i.op=2
  ·rw [if_pos q2];exact push_call
  rw [if_neg q2]
  by_cases q3:i.op=3
  ·rw [if_pos q3];exact push_call
  rw [if_neg q3]
  by_cases q4:i.op=4
  ·rw [if_pos q4];exact kindly_call push_call
  rw [if_neg q4]
  by_cases q5:i.op=5
  ·rw [if_pos q5];exact pop1_call (fun v st=>kindly_call (fun e=>by cases e))
  rw [if_neg q5]
  by_cases q6:i.op=6
  ·rw [if_pos q6];unfold s67 pop2;refine pop1_call (fun v st=>?_);split
   ·intro e;cases e
   ·exact act_call (fun v h=>push_call)
  rw [if_neg q6]
  by_cases q7:i.op=7
  ·rw [if_pos q7];unfold s67 pop2;refine pop1_call (fun v st=>?_);split
   ·intro e;cases e
   ·exact act_call (fun v h=>push_call)
  rw [if_neg q7]
  by_cases q8:i.op=8
  ·rw [if_pos q8];exact pop1_call (fun v st=>kindly_call push_call)
  rw [if_neg q8]
  by_cases q9:i.op=9
  ·rw [if_pos q9];exact pop1_call (fun v st=>kindly_call push_call)
  rw [if_neg q9]
  by_cases q10:i.op=10
  ·rw [if_pos q10];unfold s10 pop2;refine pop1_call (fun v st=>?_);split
   ·intro e;cases e
   ·exact kindly_call (kindly_call push_call)
  rw [if_neg q10]
  by_cases q11:i.op=11
  ·rw [if_pos q11];intro e;cases e
  rw [if_neg q11]
  by_cases q12:i.op=12
  ·rw [if_pos q12];exact pop1_call (fun v st=>kindly_call (fun e=>by cases e))
  rw [if_neg q12]
  by_cases q13:i.op=13
  ·rw [if_pos q13];exact pop1_call (fun v st=>kindly_call (fun e=>by cases e))
  rw [if_neg q13]
  by_cases q14:i.op=14
  ·rw [if_pos q14];exact act_call (fun v h=>push_call)
  rw [if_neg q14]
  by_cases q15:i.op=15
  ·rw [if_pos q15];exact pop1_call (fun v st=>act_call (fun v h=>push_call))
  rw [if_neg q15]
  by_cases q16:i.op=16
  ·rw [if_pos q16];unfold s16 pop2;refine pop1_call (fun v st=>?_);split
   ·intro e;cases e
   ·exact kindly_call (act_call (fun v h e=>by cases e))
  rw [if_neg q16]
  by_cases q17:i.op=17
  ·rw [if_pos q17];exact pop1_call (fun v st=>act_call (fun v h=>push_call))
  rw [if_neg q17]
  by_cases q18:i.op=18
  ·rw [if_pos q18];exact pop1_call (fun v st=>act_call (fun v h=>push_call))
  rw [if_neg q18,if_neg q]
  by_cases q20:i.op=20
  ·rw [if_pos q20];unfold s20;split
   ·intro e;cases e
   ·refine pop1_call (fun v st=>?_);split <;> (intro e;cases e)
  rw [if_neg q20]
  by_cases q21:i.op=21
  ·rw [if_pos q21];exact pop1_call (fun v st=>act_call (fun v h e=>by cases e))
  rw [if_neg q21]
  by_cases q22:i.op=22
  ·rw [if_pos q22];exact pop1_call (fun v st e=>by cases e)
  rw [if_neg q22]
  by_cases q23:i.op=23
  ·rw [if_pos q23];refine pop1_call (fun v st=>?_);split <;> (intro e;cases e)
  rw [if_neg q23]
  by_cases q24:i.op=24
  ·rw [if_pos q24];exact pop1_call (fun v st=>act_call (fun v h e=>by cases e))
  rw [if_neg q24]
  by_cases q25:i.op=25
  ·rw [if_pos q25];exact act_call (fun v h=>push_call)
  rw [if_neg q25]
  intro e;cases e
theorem sm_same:SameFrame SM:=by
 intro f input m i fr h k args fr' h' he f2 m2 o h2
 obtain ⟨_,e1,e2⟩:=sstep_call he
 have hat:SM.at_ fr'=SM.at_ fr:=e1
 have hcg:SM.caught m2 fr'=SM.caught m2 fr:=by
  funext a b
  show scaught m2 fr' a b=scaught m2 fr a b
  unfold scaught on
  rw [e2]
 unfold after
 rw [hat,hcg]
end Run
namespace Run
open D Num
def Fm (f:Fi) (input:List Int) (fuel:Nat) (h0 h:Hp):Prop:=HpOk f.classes input fuel h∧h0.objs.length≤h.objs.length∧h0.steps≤h.steps
theorem Fm.trans {f:Fi}{input:List Int}{fuel:Nat}{a b c:Hp}(h:Fm f input fuel a b) (k:Fm f input fuel b c):Fm f input fuel a c:=⟨k.1,Nat.le_trans h.2.1 k.2.1,Nat.le_trans h.2.2 k.2.2⟩
theorem Fm.of_from {f:Fi}{input:List Int}{fuel:Nat}{a b:Hp}(h:From f.classes input fuel a b):Fm f input fuel a b:=⟨h.1,h.2.1,by rw [h.2.2];exact Nat.le_refl _⟩
def OutOk {Fr:Type}(FrOk:Me→Nat→Fr→Prop) (f:Fi) (input:List Int) (fuel:Nat) (m:Me) (h0:Hp):Out Fr→Prop
 | .go fr h=>Fm f input fuel h0 h∧FrOk m h.objs.length fr
 | .back v h=>Fm f input fuel h0 h∧RetOk m h.objs.length v
 | .thrown o h=>Fm f input fuel h0 h∧o < h.objs.length
 | .stop _ h=>Fm f input fuel h0 h
theorem outA_ok {Fr:Type}{M:Mach Fr}{FrOk:Me→Nat→Fr→Prop}{f:Fi}{input:List Int}{fuel g d:Nat}{m:Me}{h0:Hp}(K:MachOk M FrOk f input fuel) (hm:m∈f.methods){a:Act Fr}(ha:ActOk FrOk f input fuel m h0 a):OutOk FrOk f input fuel m h0 (outA M f input fuel g d m a):=by
 cases a with
 | go fr h=>exact ⟨.of_from ha.1,ha.2⟩
 | back v h=>exact ⟨.of_from ha.1,ha.2⟩
 | thrown o h=>exact ⟨.of_from ha.1,ha.2⟩
 | stop e h=>exact Fm.of_from ha
 | call k args fr h =>
  obtain ⟨F,hfr,hv,hal,hk⟩:=ha
  have hc:=call_ok K g d (meAt f k) args h (meAt_mem hk) F.1 hv hal
  simp only [outA]
  revert hc
  generalize call M f input fuel g d (meAt f k) args h=r
  intro hc
  cases r with
  | stop e h2=>exact (Fm.of_from F).trans hc
  | thrown o h2=>exact ⟨(Fm.of_from F).trans hc.1,hc.2⟩
  | ok v h2 =>
   simp only [outC]
   cases hr:M.resume m (meAt f k) fr v with
   | none=>exact (Fm.of_from F).trans hc.1
   | some fr2=>exact ⟨(Fm.of_from F).trans hc.1,K.resume m hm _ _ _ _ _ (K.mono _ _ _ _ hc.1.2.1 hfr) hc.2 hr⟩
def SfB (m:Me) (n:Nat) (fr:Sf):Prop:=SfOk m n fr∧fr.stk.length≤40
theorem smB_ok {f:Fi}{input:List Int}{fuel:Nat}(S:FiS f) (hn:∀ m∈f.methods,∀ i∈m.code,Ok i.n) (hin:∀ x∈input,Ok x):MachOk SM SfB f input fuel:=by
 have K:=sm_ok (fuel:=fuel) S hn hin
 refine ⟨K.may,fun m hm i hi fr h H ho hf=>?_,fun m hm n args hv hl hk=>⟨K.enter m hm n args hv hl hk,by show (List.length ([]:List Vl))≤40;simp⟩,fun m hm callee n v fr fr' hf hv hr=>⟨K.resume m hm callee n v fr fr' hf.1 hv hr,?_⟩,fun m hm n o a fr fr' ho hn hf hc=>⟨K.caught m hm n o a fr fr' ho hn hf.1 hc,?_⟩,fun m n n' fr hn hf=>⟨K.mono m n n' fr hn hf.1,hf.2⟩⟩
 ·have h1:=K.step m hm i hi fr h H ho hf.1
  have h2:ActL (SM.step f input m i fr h):=(sstep_l (f:=f) (input:=input) (i:=i) (h:=h) (S.mes m hm).stack.2 hf.2).1
  revert h1 h2
  generalize SM.step f input m i fr h=a
  intro h1 h2
  cases a with
  | go fr' h'=>exact ⟨h1.1,h1.2,h2⟩
  | back v h'=>exact h1
  | thrown o h'=>exact h1
  | stop e h'=>exact h1
  | call k args fr' h'=>exact ⟨h1.1,⟨h1.2.1,h2⟩,h1.2.2⟩
 ·have hb:=(S.mes m hm).stack.2
  change sresume m callee fr v=some fr' at hr
  unfold sresume at hr
  split at hr
  ·injection hr with hr;subst hr;exact hf.2
  ·split at hr
   ·rename_i q
    injection hr with hr;subst hr
    have:=stk_of_size (fr.stk++[v])
    show (fr.stk++[v]).length≤40
    omega
   ·cases hr
 ·change scaught m fr a o=some fr' at hc
  unfold scaught at hc
  split at hc
  ·injection hc with hc;subst hc;show (List.length [_])≤40;simp
  ·cases hc
end Run
namespace Run
theorem size_app:∀ a b:List Vl,size (a++b)=size a+size b:=by
 intro a
 induction a with
 | nil=>intro b;simp [size]
 | cons v a ih=>intro b;simp only [List.cons_append,size,ih];omega
theorem size_takeP (l:List Vl) (k:Nat) (hk:k < l.length):size (l.take (k+1))=size (l.take k)+width l[k]:=by
 rw [List.take_succ_eq_append_getElem hk,size_app];simp [size]
theorem size_bound (l:List Vl):size l≤2*l.length:=by
 induction l with
 | nil=>simp [size]
 | cons v l ih=>have:=width_le v;simp only [size,List.length_cons];omega
end Run
namespace Hpw
open Num Rd D Run Mem HierW
section
variable {E:Ev}{w w' w0 w1 w2 W:World}{L L' L1:Lay}{h h' h1 h2:Hp}{d:Nat}{m:Me}
theorem row_low {w:World}{base b2 n size:Nat}{T:TypeId}{v:Value}{xs:List Value}(h:w.ownsRow base T size v n xs) (hb:b2≤base):w.ownsRow b2 T size v n xs:=by
 refine ⟨h.1,?_⟩
 rcases h.2 with e | ⟨g,cap,cur,e,hg,rest⟩
 ·exact .inl e
 ·exact .inr ⟨g,cap,cur,e,Nat.le_trans hb hg,rest⟩
theorem row_takeV {w:World}{base:Nat}{T:TypeId}{size n:Nat}{a:Option Addr}{cap:Nat}{xs:List Value}(h:w.ownsRow base T size (.slice a n cap) n xs){k:Nat}(hk:k≤n):w.ownsRow base T size (.slice a k cap) k (xs.take (k*size)):=by
 have hkn:=Nat.mul_le_mul_right size hk
 refine ⟨by rw [List.length_take,h.1,Nat.min_eq_left hkn],?_⟩
 rcases h.2 with ⟨hv,h0⟩ | ⟨g,cap',cur,hv,hb,hg,h1,h2,h3,h4⟩
 ·have:k=0:=by omega
  subst this
  simp only [Value.slice.injEq] at hv
  obtain ⟨rfl,_,rfl⟩:=hv
  exact .inl ⟨rfl,rfl⟩
 ·simp only [Value.slice.injEq] at hv
  obtain ⟨rfl,_,rfl⟩:=hv
  refine .inr ⟨g,cap,cur,rfl,hb,hg,by omega,h2,h3,?_⟩
  rw [← h4,List.take_take,Nat.min_eq_left hkn]
theorem vcells_take (l:List Vl) (n:Nat) (hn:n≤l.length):vcells (l.take n)=(vcells l).take (n*2):=by
 have e:vcells l=vcells (l.take n)++vcells (l.drop n):=by rw [← vcells_append,List.take_append_drop]
 have hl:(vcells (l.take n)).length=n*2:=by rw [vcells_len,List.length_take,Nat.min_eq_left hn]
 rw [e,List.take_append_of_le_length (by omega)]
 exact (List.take_of_length_le (Nat.le_of_eq hl)).symm
theorem info_valP:(Tryz.prog.info? 46).map (fun i=>(i.zero,i.size,i.bytes))=some (some (.agg #[.int .i64 0,.int .i64 0]),2,16):=by kernel_rfl
def vl (v:Vl):Value:=.agg #[.int .i64 v.kind,.int .i64 v.n]
def hdV (r:Option Hd):Value:=match r with
 | some x=>.tuple #[.int .i64 x.go,.bool true]
 | none=>.tuple #[.int .i64 0,.bool false]
set_option maxRecDepth 100000 in
theorem caughtP {o:Nat}(H:PH E w L h d) (ho:o < h.objs.length) (hm:Hier.may E.f.classes=true){vp vc vh:Value}(m:Me) (hh:Sl 4 EHd w E.B vh m.handlers) (a:Nat) (r:Value) (hr:hdV (handler E.f.classes m a (obj h o).cls)=r) :
  Calls Tryz.prog 102 #[.pointer (some ⟨E.hb,0,none⟩),.agg #[vp,.int .i64 m.ret.kind,.int .i64 m.ret.cls,.int .i64 m.stack,.int .i64 m.locals,.int .i64 m.regs,vc,vh],.int .i64 a,.int .i64 o] w fun e w'=>e=.returned r∧Below w.heap.size w w':=by
 have HH:=Lib.hid H
 have hhb:=H.hbw
 have hB:=Lib.hid (show E.B≤w.heap.size by have:=H.base;omega)
 obtain ⟨g,cap,hvb,c1,c2,hg,hgne,o1,_⟩:=H.ob (n:=o) (by omega) (by omega)
 have b0:=H.c0
 have b8:=H.c8
 rw [hvb] at b8
 obtain ⟨ca,ccap,hvc,_⟩:=id H.cls
 have hC:Cs w E.vc E.f.classes:=H.cls.mono mCls (Below.refl _ _) (Nat.le_of_lt (Nat.lt_of_le_of_lt H.base.1 hhb))
 have HC:=Lib.hid hC
 have hwf:=Lib.hid (Hier.wf_of_may hm)
 rw [hvc] at b0 HC
 rw [Int.toNat_natCast] at o1
 obtain ⟨ha,hcap,rfl,h1,h2,hel⟩:=hh
 obtain ⟨cl,hcl⟩:∃ cl,Hid ((obj h o).cls=cl):=⟨_,Lib.hid rfl⟩
 rw [hcl.out] at o1 hr
 have hoi:(o:Int) < h.objs.length:=by omega
 replace hr:=Lib.hid hr
 have hdrop:Hid (handler E.f.classes m a cl=(m.handlers.drop 0).find? fun x=>decide (x.lo≤(a:Int)) && decide ((a:Int) < x.hi) && Hier.is E.f.classes cl x.cls):=rfl
 clear H hvb hvc hC
 go_enter Tryz.func102,Tryz.ntmps102
 go_wp2
 go_loopw [15] (fun i wr=>∃ n:Nat,i=.int .i64 n∧n≤m.handlers.length∧Below w.heap.size w wr∧w.heap.size < wr.heap.size∧Hid (handler E.f.classes m a cl=(m.handlers.drop n).find? fun x=>decide (x.lo≤(a:Int)) && decide ((a:Int) < x.hi) && Hier.is E.f.classes cl x.cls)) (fun i _=>m.handlers.length - (intOf i).toNat)
 case atStart=>exact ⟨0,rfl,Nat.zero_le _,by exact Rd.byB,by simp,hdrop⟩
 case round =>
  obtain ⟨n,rfl,hn,hb,hsz,hall⟩:=hrel
  have hBW:=Lib.hid hb
  by_cases hlt:n < m.handlers.length
  ·obtain ⟨xb,xo,rfl,hxb,he⟩:=hel n hlt
   obtain ⟨x,hx⟩:=at_of hlt
   rw [hx.out] at he
   obtain ⟨x0,x1,x2,x3,_⟩:=he
   have hlx:xb < w.heap.size:=Nat.lt_of_lt_of_le hxb hB.out
   have x0':=kept hb hlx x0
   have x1':=kept hb hlx x1
   have x2':=kept hb hlx x2
   have x3':=kept hb hlx x3
   have b0':=kept hb hhb b0
   have b8':=kept hb hhb b8
   have o1':=kept hb hg o1
   have hni:(n:Int) < m.handlers.length:=by omega
   have hd:=Lib.hid (show m.handlers.drop n=x :: m.handlers.drop (n+1) from by rw [List.drop_eq_getElem_cons hlt,hx.out])
   obtain ⟨p,hp⟩:∃ p,Hid (Hier.is E.f.classes cl x.cls=p):=⟨_,Lib.hid rfl⟩
   have hws:=hb.size
   clear hel x0 x1 x2 x3 b0 b8 o1 hb
   have hhb2:E.hb < wr.heap.size:=Nat.lt_of_lt_of_le hhb hBW.out.size
   have hg2:g < wr.heap.size:=Nat.lt_of_lt_of_le hg hBW.out.size
   obtain ⟨xlo,xhi,xgo,xcl⟩:=x
   simp only at x0' x1' x2' x3' hp
   by_cases q1:xlo≤a
   ·have q1b:decide (xlo≤(a:Int))=true:=by simpa using q1
    by_cases q2:(a:Int) < xhi
    ·have q2b:decide ((a:Int) < xhi)=true:=by simpa using q2
     have HBA:Hid (Below w.heap.size w (wr.alloc (.cells #[.int .i64 xlo,.int .i64 xhi,.int .i64 xgo,.int .i64 xcl] 110))):=by
      have hb:=hBW.out
      show Below _ _ _
      exact Rd.byB
     go_wp2_with fail
     refine Drawn.hd (fun w'=>w'.cell? ⟨E.hb,0,none⟩=some (.slice ca E.f.classes.length ccap)∧w'.cell? ⟨E.hb,8,none⟩=some (.slice (some ⟨g,0,none⟩) h.objs.length cap)∧w'.cell? ⟨g,o*2,none⟩=some (.int .i64 cl)∧w'.cell? ⟨wr.heap.size,0,none⟩=some (.int .i64 xlo)∧w'.cell? ⟨wr.heap.size,1,none⟩=some (.int .i64 xhi)∧w'.cell? ⟨wr.heap.size,3,none⟩=some (.int .i64 xcl)) (h:=fun hHeld=>?_)
     refine Drawn.T 0 (some 19) (h:=?_)
     refine Drawn.T 1 (some 20) (h:=?_)
     refine Drawn.T 2 (some 21) (h:=?_)
     refine Drawn.T 3 (some 22) (h:=?_)
     refine Drawn.T 4 (some 23) (h:=?_)
     refine Drawn.T 5 (some 24) (h:=?_)
     refine Drawn.T 6 (some 25) (h:=?_)
     refine Drawn.T 7 (some 26) (h:=?_)
     refine Drawn.T 8 (some 27) (h:=?_)
     refine Drawn.T 9 (some 28) (h:=?_)
     refine Drawn.T 10 (some 29) (h:=?_)
     refine Drawn.T 11 (some 30) (h:=?_)
     refine Drawn.T 12 (some 31) (h:=?_)
     refine Drawn.T 13 (some 32) (h:=?_)
     refine Drawn.T 14 (some 33) (h:=?_)
     refine Drawn.T 15 (some 34) (h:=?_)
     refine Drawn.T 16 (some 35) (h:=?_)
     refine Drawn.T 17 (some 36) (h:=?_)
     refine Drawn.T 18 (some 37) (h:=?_)
     refine Drawn.T 19 (some 38) (h:=?_)
     refine Drawn.T 20 (some 39) (h:=?_)
     refine Drawn.T 21 (some 40) (h:=?_)
     refine Drawn.T 22 (some 41) (h:=?_)
     refine Drawn.T 23 (some 42) (h:=?_)
     refine Drawn.T 24 (some 43) (h:=?_)
     refine Drawn.T 25 (some 44) (h:=?_)
     refine Drawn.cl 26 (fun K hK=>?_)
     go_simp
     go_at_call 152
     refine (UpW.is _ E.f.classes cl xcl _ (HC.out.next (HBA.out.trans (by exact Rd.byB))) hwf.out).mono ?_
     rw [hp.out]
     rintro e w1 ⟨rfl,hb1⟩
     have kk:∀ (b o:Nat) (u:Value),World.cell? _ ⟨b,o,none⟩=some u→w1.cell? ⟨b,o,none⟩=some u:=fun b o u hc=>kept hb1 (cell_lt hc) hc
     have y0:=kk E.hb 0 (.slice ca E.f.classes.length ccap) (by go_simp)
     have y1:=kk E.hb 8 (.slice (some ⟨g,0,none⟩) h.objs.length cap) (by go_simp)
     have y2:=kk g (o*2) (.int .i64 cl) (by go_simp)
     have y3:=kk wr.heap.size 0 (.int .i64 xlo) (by go_simp)
     have y4:=kk wr.heap.size 1 (.int .i64 xhi) (by go_simp)
     have y5:=kk wr.heap.size 3 (.int .i64 xcl) (by go_simp)
     have y6:=kk wr.heap.size 2 (.int .i64 xgo) (by go_simp)
     have HB1:=Lib.hid (show Below w.heap.size w w1 from HBA.out.trans (Below.trans (by exact Rd.byB) (hb1.mono (by simp <;> omega))))
     have hz1:=hb1.size
     have hz:w.heap.size < w1.heap.size:=by simp at hz1;omega
     clear kk hb1 hz1
     go_wp2_with fail
     refine Drawn.bk hK (hS:=by (try dsimp only);exact ⟨y0,y1,y2,y3,y4,y5⟩) (h:=fun hHeld=>?_)
     clear hK K
     refine Drawn.T 27 (some 46) (h:=?_)
     refine wpAnyH_done (by kernel_rfl) ?_ _
     cases p
     ·have hnx:Hid (handler E.f.classes m a cl=(m.handlers.drop (n+1)).find? fun x=>decide (x.lo≤(a:Int)) && decide ((a:Int) < x.hi) && Hier.is E.f.classes cl x.cls):=by
       show _=_
       rw [hall.out,hd.out,List.find?_cons,hp.out];simp
      go_wp2
      go_roundw
      case rel=>exact ⟨n+1,by go_num,by omega,HB1.out,hz,hnx⟩
      case measure=>simp [intOf];omega
     ·have hnx:Hid (.tuple #[.int .i64 xgo,.bool true]=r):=by
       show _=_
       rw [← hr.out,hall.out,hd.out,List.find?_cons,hp.out];simp [q1,q2,hdV]
      go_wp2
      go_ret2
      exact ⟨by rw [← hnx.out];rfl,HB1.out⟩
    ·have q2b:decide ((a:Int) < xhi)=false:=by simpa using q2
     have hnx:Hid (handler E.f.classes m a cl=(m.handlers.drop (n+1)).find? fun x=>decide (x.lo≤(a:Int)) && decide ((a:Int) < x.hi) && Hier.is E.f.classes cl x.cls):=by
      show _=_
      rw [hall.out,hd.out,List.find?_cons];simp [q2]
     clear hp
     go_wp2
     go_quiet (fail)
     go_wp2
     have hb:=hBW.out
     go_roundw
     case rel=>exact ⟨n+1,by go_num,by omega,by exact Rd.byB,by simp;omega,hnx⟩
     case measure=>simp [intOf];omega
   ·have q1b:decide (xlo≤(a:Int))=false:=by simpa using q1
    have hnx:Hid (handler E.f.classes m a cl=(m.handlers.drop (n+1)).find? fun x=>decide (x.lo≤(a:Int)) && decide ((a:Int) < x.hi) && Hier.is E.f.classes cl x.cls):=by
     show _=_
     rw [hall.out,hd.out,List.find?_cons];simp [q1]
    clear hp
    go_wp2
    go_quiet (fail)
    go_wp2
    have hb:=hBW.out
    go_roundw
    case rel=>exact ⟨n+1,by go_num,by omega,by exact Rd.byB,by simp;omega,hnx⟩
    case measure=>simp [intOf];omega
  ·obtain rfl:n=m.handlers.length:=by omega
   have hnx:Hid (.tuple #[.int .i64 0,.bool false]=r):=by
    show _=_
    rw [← hr.out,hall.out,List.drop_length];rfl
   clear hb
   go_wp2
   go_ret2
   exact ⟨by rw [← hnx.out];rfl,hBW.out⟩
set_option maxRecDepth 100000 in
theorem assertT (o:Int) (w:World):(Instr.typeAssert (.iface 90 (.agg #[.int .i64 o])) 20 90 true).run Tryz.prog w=.ok (.tuple #[.agg #[.int .i64 o],.bool true]) w:=by kernel_rfl
set_option maxRecDepth 100000 in
theorem assertS (c:Int) (w:World):(Instr.typeAssert (.iface 88 (.agg #[.int .i64 c])) 20 90 true).run Tryz.prog w=.ok (.tuple #[.agg #[.int .i64 0],.bool false]) w:=by kernel_rfl
theorem tryIdle (p q:Addr) (w:World):CallsD Tryz.prog 153 #[.pointer (some p),.pointer (some q)] .returning w fun e u' w'=>e=.returned (.tuple #[])∧u'=.returning∧w'=w:=by
 refine callsD_of_wpS Tryz.func153 rfl fun c₀ cs hu=>?_
 apply wpS_seq
 apply wpS_region
 simp [wpOpsS,go_sem,recoverD,hu,Tryz.ntmps153,Exit.thenS]
 refine wpS_of_wp ?_
 go_wp2
 all_goals (cases c₀;simp_all [bodyPostS,results,Tryz.results153])
set_option maxRecDepth 100000 in
theorem tryThrown (n m:Nat) (o:Int) (hnm:n≠m) (older:List PanicEntry) (w:World) (h0:w.cell? ⟨n,0,none⟩=some (.int .i64 0)) (hf0:w.frozen? ⟨n,0,none⟩=false) (h1:w.cell? ⟨m,0,none⟩=some (.bool false)) (hf1:w.frozen? ⟨m,0,none⟩=false) :
  CallsD Tryz.prog 153 #[.pointer (some ⟨n,0,none⟩),.pointer (some ⟨m,0,none⟩)] (.panicking ({ v:=thrownV o,recovered:=false } :: older)) w fun e u' w' =>
   e=.returned (.tuple #[])∧u'=.panicking ({ v:=thrownV o,recovered:=true } :: older)∧w'=((w.setCell ⟨n,0,none⟩ (.int .i64 o)).setCell ⟨m,0,none⟩ (.bool true)).alloc (.cells #[.int .i64 o] 90):=by
 have hta:=assertT o
 have hn:=cell_lt h0
 have hm:=cell_lt h1
 unfold thrownV
 refine callsD_of_wpS Tryz.func153 rfl fun c₀ cs hu=>?_
 apply wpS_seq
 apply wpS_region
 simp [wpOpsS,go_sem,recoverD,hu,Tryz.ntmps153,Exit.thenS]
 rw [show (Array.replicate 16 undef:Array Value)=#[undef,undef,undef,undef,undef,undef,undef,undef,undef,undef,undef,undef,undef,undef,undef,undef] from rfl]
 simp only [List.setIfInBounds_toArray,List.set_cons_succ,List.set_cons_zero,List.append_toArray,List.cons_append,List.nil_append]
 refine wpS_of_wp ?_
 go_wp2
 simp [bodyPostS,results,Tryz.results153]
set_option maxRecDepth 100000 in
theorem tryStop (p q:Addr) (c:Int) (older:List PanicEntry) (w:World) :
  CallsD Tryz.prog 153 #[.pointer (some p),.pointer (some q)] (.panicking ({ v:=stopV c,recovered:=false } :: older)) w fun e u' w' =>
   e=.panicked [{ v:=stopV c,recovered:=false }]∧u'=.panicking ({ v:=stopV c,recovered:=true } :: older)∧w'=w.alloc (.cells #[.int .i64 0] 90):=by
 have hta:=assertS c
 unfold stopV
 refine callsD_of_wpS Tryz.func153 rfl fun c₀ cs hu=>?_
 apply wpS_seq
 apply wpS_region
 simp [wpOpsS,go_sem,recoverD,hu,Tryz.ntmps153,Exit.thenS]
 rw [show (Array.replicate 16 undef:Array Value)=#[undef,undef,undef,undef,undef,undef,undef,undef,undef,undef,undef,undef,undef,undef,undef,undef] from rfl]
 simp only [List.setIfInBounds_toArray,List.set_cons_succ,List.set_cons_zero,List.append_toArray,List.cons_append,List.nil_append]
 refine wpS_of_wp ?_
 go_wp2
 simp [bodyPostS,results,Tryz.results153]
theorem drop_all:∀ (l:List PanicEntry),(∀ x∈l,x.goexit=false)→l.dropWhile (fun x=>!x.goexit)=[]:=by
 intro l
 induction l with
 | nil=>intro _;rfl
 | cons x l ih =>
  intro h
  rw [List.dropWhile_cons,if_pos (by simp [h x (by simp)])]
  exact ih (fun y hy=>h y (by simp [hy]))
def InvR (E:Ev) (L:Lay) (d:Nat) (w:World) (r:Res Vl) (e:Ending) (w':World):Prop:=match r with
 | .ok v h=>e=.returned (vl v)∧Lft E L d w w' h
 | .thrown o h=>Pan (thrownV o) e∧Lft E L d w w' h
 | .stop c h=>Pan (stopV c) e∧Lft E L d w w' h
theorem vcells_repP:∀ n:Nat,vcells (List.replicate n Vl.nil)=List.replicate (n*2) (.int .i64 0):=by
 intro n
 induction n with
 | zero=>rfl
 | succ n ih=>rw [show (n+1)*2=n*2+1+1 by omega,List.replicate_succ,List.replicate_succ,List.replicate_succ,← ih];rfl
theorem mkValsP (n:Nat) (hn:n≤1000) (w:World):∃ w',(Instr.makeSlice 41 (.int .i64 (n:Int)) (.int .i64 (n:Int))).run Tryz.prog w=.ok (.slice (some ⟨w.heap.size,0,none⟩) n n) w'∧Blk w' w.heap.size (vcells (List.replicate n Vl.nil))∧Below w.heap.size w w'∧w.heap.size < w'.heap.size:=by
 obtain ⟨i,hi,hz,h1,h2⟩:=info_parts info_valP
 obtain ⟨w',hrun,hown,hg⟩:=run_make_full (P:=Tryz.prog) (w:=w) w.heap.size 41 46 i (.agg #[.int .i64 0,.int .i64 0]) 2 Tryz.underlying41 hi hz h1 .i64 .i64 n (by rw [h2];omega) (by unfold maxLen;omega) (Nat.le_refl _)
 refine ⟨w',hrun,fun j hj=>?_,?_,(World.ownsRow.lt hown _ rfl).2⟩
 ·have hj2:(madeCells (Value.agg #[.int .i64 0,.int .i64 0]).cells (n*2)).toList[j]? = some ((vcells (List.replicate n Vl.nil))[j]):=by
   have hl:j < n*2:=by rw [vcells_len,List.length_replicate] at hj;exact hj
   have e2:(vcells (List.replicate n Vl.nil))[j]=.int .i64 0:=by
    have:=vcells_repP n
    simp only [this,List.getElem_replicate]
   rw [e2]
   have e3:(j % 2=0)∨(j % 2=1):=by omega
   rcases e3 with e3 | e3 <;> simp [madeCells,Value.cells,hl,e3]
  exact ⟨row_cell hown hj2,row_free hown⟩
 ·exact (Kp.of_grown (X:=fun _=>False) hg (fun k e=>by cases e)).below (Nat.le_refl _) (fun _ e=>e.elim)
theorem mkSlots (n:Nat) (hn:n≤1000) (w:World):∃ w',(Instr.makeSlice 101 (.int .i64 (n:Int)) (.int .i64 (n:Int))).run Tryz.prog w=.ok (.slice (some ⟨w.heap.size,0,none⟩) n n) w'∧Blk w' w.heap.size (vcells (List.replicate n Vl.nil))∧Below w.heap.size w w'∧w.heap.size < w'.heap.size:=by
 obtain ⟨i,hi,hz,h1,h2⟩:=info_parts info_valP
 obtain ⟨w',hrun,hown,hg⟩:=run_make_full (P:=Tryz.prog) (w:=w) w.heap.size 101 46 i (.agg #[.int .i64 0,.int .i64 0]) 2 Tryz.underlying101 hi hz h1 .i64 .i64 n (by rw [h2];omega) (by unfold maxLen;omega) (Nat.le_refl _)
 refine ⟨w',hrun,fun j hj=>?_,?_,(World.ownsRow.lt hown _ rfl).2⟩
 ·have hj2:(madeCells (Value.agg #[.int .i64 0,.int .i64 0]).cells (n*2)).toList[j]? = some ((vcells (List.replicate n Vl.nil))[j]):=by
   have hl:j < n*2:=by rw [vcells_len,List.length_replicate] at hj;exact hj
   have e2:(vcells (List.replicate n Vl.nil))[j]=.int .i64 0:=by
    have:=vcells_repP n
    simp only [this,List.getElem_replicate]
   rw [e2]
   have e3:(j % 2=0)∨(j % 2=1):=by omega
   rcases e3 with e3 | e3 <;> simp [madeCells,Value.cells,hl,e3]
  exact ⟨row_cell hown hj2,row_free hown⟩
 ·exact (Kp.of_grown (X:=fun _=>False) hg (fun k e=>by cases e)).below (Nat.le_refl _) (fun _ e=>e.elim)
theorem stores_app2:∀ (a b:List Vl) (l:List Vl) (k:Nat),stores l k (a++b)=stores (stores l k a) (k+size a) b:=by
 intro a
 induction a with
 | nil=>intro b l k;simp [stores,size]
 | cons v a ih=>intro b l k;simp only [List.cons_append,stores,size];rw [ih,Nat.add_assoc]
theorem stores_takeP {args:List Vl}{i:Nat}(hi:i < args.length) (l:List Vl):stores l 0 (args.take (i+1))=Run.store (stores l 0 (args.take i)) (size (args.take i)) args[i]:=by
 rw [List.take_succ_eq_append_getElem hi,stores_app2]
 simp [stores]
theorem size_take_leP {args:List Vl}(i:Nat):size (args.take i)≤size args:=by
 have:=size_app (args.take i) (args.drop i)
 rw [List.take_append_drop] at this
 omega
theorem PH.deep (H:PH E w L h d) (d':Nat):PH E (w.setCell ⟨E.hb,10,none⟩ (.int .i64 d')) L h d':=H.set 10 (by omega) _ rfl rfl (by simp [cellsP])
theorem Lft.deep (A:Lft E L d w w1 h) (d':Nat):Lft E L d' w (w1.setCell ⟨E.hb,10,none⟩ (.int .i64 d')) h:=by
 obtain ⟨L1,K1,N1,H1⟩:=A
 exact ⟨L1,K1.setCell (p:=⟨E.hb,10,none⟩) (.inl (.inl rfl)) _,N1,H1.deep d'⟩
theorem leaveP (b0:Nat) (u:FrameMode) (H:PH E w L h (d+1)) (hd:d≤1000) (c:w.cell? ⟨b0,0,none⟩=some (.pointer (some ⟨E.hb,0,none⟩))) :
  CallsD Tryz.prog 99 #[.pointer (some ⟨b0,0,none⟩)] u w fun e u' w'=>u'=u∧(e=.returned (.tuple #[])∧w'=w.setCell ⟨E.hb,10,none⟩ (.int .i64 d)):=by
 have c10:=H.c10
 have f10:=H.fz 10 (by decide)
 have hhb:=H.hbw
 have hw:IntKind.i64.wrap (((d+1:Nat):Int) - 1)=(d:Int):=by rw [show (((d+1:Nat):Int) - 1)=(d:Int) by omega,Num.wrap_i64,wrap64_id (by unfold Ok;omega)]
 have hw2:IntKind.i64.wrap ((d:Int)+1 - 1)=(d:Int):=by rw [show ((d:Int)+1 - 1)=(d:Int) by omega,Num.wrap_i64,wrap64_id (by unfold Ok;omega)]
 have hw3:wrap64 ((d:Int)+1 - 1)=(d:Int):=by rw [show ((d:Int)+1 - 1)=(d:Int) by omega];exact wrap64_id (by unfold Ok;omega)
 refine callsD_of_wp (R:=fun e w'=>e=.returned (.tuple #[])∧w'=w.setCell ⟨E.hb,10,none⟩ (.int .i64 d)) Tryz.func99 rfl ?_
 rw [Tryz.ntmps99]
 rw [show (#[Value.pointer (some ⟨b0,0,none⟩)]++Array.replicate (8 - (#[Value.pointer (some ⟨b0,0,none⟩)]:Array Value).size) undef:Array Value)=#[Value.pointer (some ⟨b0,0,none⟩),undef,undef,undef,undef,undef,undef,undef] from rfl]
 go_wp2_with fail
 go_end0
 exact ⟨rfl,by simp⟩
theorem blk8 {w:World}{b:Nat}{v0 v1 v2 v3 v4 v5 v6 v7:Value}(c0:w.cell? ⟨b,0,none⟩=some v0) (c1:w.cell? ⟨b,1,none⟩=some v1) (c2:w.cell? ⟨b,2,none⟩=some v2) (c3:w.cell? ⟨b,3,none⟩=some v3) (c4:w.cell? ⟨b,4,none⟩=some v4) (c5:w.cell? ⟨b,5,none⟩=some v5) (c6:w.cell? ⟨b,6,none⟩=some v6) (c7:w.cell? ⟨b,7,none⟩=some v7) (f0:w.frozen? ⟨b,0,none⟩=false) (f1:w.frozen? ⟨b,1,none⟩=false) (f2:w.frozen? ⟨b,2,none⟩=false) (f3:w.frozen? ⟨b,3,none⟩=false) (f4:w.frozen? ⟨b,4,none⟩=false) (f5:w.frozen? ⟨b,5,none⟩=false) (f6:w.frozen? ⟨b,6,none⟩=false) (f7:w.frozen? ⟨b,7,none⟩=false):Blk w b [v0,v1,v2,v3,v4,v5,v6,v7]:=fun j hj =>
 match j,hj with
 | 0,_=>⟨c0,f0⟩
 | 1,_=>⟨c1,f1⟩
 | 2,_=>⟨c2,f2⟩
 | 3,_=>⟨c3,f3⟩
 | 4,_=>⟨c4,f4⟩
 | 5,_=>⟨c5,f5⟩
 | 6,_=>⟨c6,f6⟩
 | 7,_=>⟨c7,f7⟩
 | n+8,hj=>absurd hj (by simp)
theorem Lft.res2 (H:PH E w L h' d) (hb:Below w.heap.size w w1) (A:Lft E L d w1 w2 h){b:Nat}(h1:w.heap.size≤b) (h2:b < w1.heap.size) (x y:Value):Lft E L d w ((w2.setCell ⟨b,0,none⟩ x).setCell ⟨b,1,none⟩ y) h:=by
 obtain ⟨L1,K1,N1,H1⟩:=A
 have K0:=(Kp.of_below (X:=own E L) hb (Nat.le_refl _)).trans K1 (fun _ h=>.inl h)
 have nb:¬ own E L1 b:=fun hk=>by
  rcases N1 b hk with q | q
  ·have:=own_lo H q;omega
  ·omega
 have hEB:=H.base
 have K3:Kp (fun k=>k=b) w2 ((w2.setCell ⟨b,0,none⟩ x).setCell ⟨b,1,none⟩ y):=((Kp.refl (fun k=>k=b) w2).setCell (p:=⟨b,0,none⟩) (.inl rfl) x).setCell (p:=⟨b,1,none⟩) (.inl rfl) y
 exact ⟨L1,(K0.setCell (p:=⟨b,0,none⟩) (.inr h1) x).setCell (p:=⟨b,1,none⟩) (.inr h1) y,fun k hk=>(N1 k hk).imp id (fun q=>Nat.le_trans hb.size q),H1.keep K3 (fun k e=>by subst e;exact ⟨by omega,nb⟩)⟩
theorem Lft.cell (A:Lft E L d w w1 h){b o:Nat}{v:Value}(hc:w.cell? ⟨b,o,none⟩=some v) (hn:¬ own E L b):w1.cell? ⟨b,o,none⟩=some v:=by
 obtain ⟨L1,K1,N1,H1⟩:=A
 exact K1.cell hc hn
theorem Lft.frz (A:Lft E L d w w1 h){b o:Nat}{x:Bool}(hl:b < w.heap.size) (hc:w.frozen? ⟨b,o,none⟩=x) (hn:¬ own E L b):w1.frozen? ⟨b,o,none⟩=x:=by
 obtain ⟨L1,K1,N1,H1⟩:=A
 exact K1.frz hc hl hn
def PanTo (F:List PanicEntry→World→Prop) (v:Value) (k:Nat) (Q:Exit→Act→World→Prop):Exit→Act→World→Prop
 | .panic c,a,w=>F c w∧a.tmps[k]? = some v∧a.defers=[]
 | e,a,w=>Q e a w
theorem wp_region_panTo {P:Program}{id:Nat}{ops:Array Oper}{b:Bool}{Q:Exit→Act→World→Prop}{a:Act}{w:World}(F:List PanicEntry→World→Prop) (v:Value) (k:Nat) (hF:∀ c a w,F c w→a.tmps[k]? = some v→a.defers=[]→Q (.panic c) a w) (h:(Code.region id ops b).wp P (PanTo F v k Q) a w):(Code.region id ops b).wp P Q a w :=
 Code.wp_mono (fun e a w h=>by
  cases e
  case panic c=>exact hF _ _ _ h.1 h.2.1 h.2.2
  all_goals exact h) h
theorem PanTo.put {F:List PanicEntry→World→Prop}{v:Value}{k:Nat}{Q:Exit→Act→World→Prop}(j:Nat) (hj:j≠k) (x:Value):∀ c a w,PanTo F v k Q (.panic c) (Act.put a (some j) x) w→PanTo F v k Q (.panic c) a w:=fun c a w h=>by
 refine ⟨h.1,?_,h.2.2⟩
 have:=h.2.1
 simp only [Act.put] at this
 rw [Array.getElem?_setIfInBounds_ne hj] at this
 exact this
theorem Blk.made1 (w:World) (o:Obj) (cs:List Value) (t:TypeId):Blk ((w.alloc o).alloc (.cells cs.toArray t)) (w.heap.size+1) cs:=by
 have h:=Blk.made (w.alloc o) cs t
 rwa [show (w.alloc o).heap.size=w.heap.size+1 from by simp] at h
theorem Blk.made2 (w:World) (o1 o2:Obj) (cs:List Value) (t:TypeId):Blk (((w.alloc o1).alloc o2).alloc (.cells cs.toArray t)) (w.heap.size+2) cs:=by
 have h:=Blk.made ((w.alloc o1).alloc o2) cs t
 rwa [show ((w.alloc o1).alloc o2).heap.size=w.heap.size+2 from by simp] at h
end
end Hpw
namespace Hpw
open Num Rd D Run Mem HierW
section
variable {E:Ev}{w w' w1 w2:World}{L L' L1:Lay}{h h' h1 h2:Hp}{d:Nat}{m m2:Me}
set_option maxRecDepth 100000 in
theorem callBad (hm:Hier.may E.f.classes=true) (H:PH E w L h d) (X:Nat→Prop){va:Value}(args:List Vl){vp vc vh:Value}(hVM:VMe w E.B (.agg #[vp,.int .i64 m.ret.kind,.int .i64 m.ret.cls,.int .i64 m.stack,.int .i64 m.locals,.int .i64 m.regs,vc,vh]) m) (ha:VS w X va args) (hlen:args.length=m.params.length) (h4:args.length≤4) (hv:∀ v∈args,VtOk h.objs.length v) (hc:allOf E.f.classes h args m.params=false) (fv:Value) :
  Calls Tryz.prog 50 #[.pointer (some ⟨E.hb,0,none⟩),.agg #[vp,.int .i64 m.ret.kind,.int .i64 m.ret.cls,.int .i64 m.stack,.int .i64 m.locals,.int .i64 m.regs,vc,vh],va,fv] w (InvR E L d w (.stop 6 h)):=by
 have HH:=Lib.hid H
 obtain ⟨vp',vc',vh',hmv',oks,sps,sco,shs⟩:=hVM
 obtain ⟨rfl,rfl,rfl⟩:vp=vp'∧vc=vc'∧vh=vh':=by
  simp at hmv'
  exact ⟨hmv'.1,hmv'.2.1,hmv'.2.2⟩
 obtain ⟨pa,pcap,rfl,p1,p2,pel⟩:=id sps
 obtain ⟨ca,ccap,rfl,p3,p4,_⟩:=id sco
 obtain ⟨ha',hcap,rfl,p5,p6,_⟩:=id shs
 have HA:=Lib.hid ha
 obtain ⟨ax,acap,rfl,a1,a2⟩:=ha.len
 have PEL:=Lib.hid pel
 have hlq:((args.length:Int)==(m.params.length:Int))=true:=by rw [hlen];simp
 have hEB:E.B≤w.heap.size:=by have:=H.base;omega
 clear H ha hmv' sps sco shs pel
 go_enter_defers Tryz.func50,Tryz.ntmps50
 go_wp2_with fail
 refine (mustT _).mono ?_
 rintro e w2 ⟨rfl,rfl⟩
 go_wp2_with fail
 generalize hWW:World.alloc _ (.cells #[.int .i64 0,.int .i64 0] 46)=W
 replace hWW:=Lib.hid hWW
 have e0:W.cell? ⟨w.heap.size,0,none⟩=some (.pointer (some ⟨E.hb,0,none⟩)):=by rw [← hWW.out];go_simp
 have HB:=Lib.hid (show Below w.heap.size w W from by rw [← hWW.out];exact Rd.byB)
 have hsW:w.heap.size+2 < W.heap.size:=by rw [← hWW.out];simp
 clear hWW
 have HC:=Lib.hid hc
 clear hc
 go_loopw [28] (fun i wr=>∃ n:Nat,i=.int .i64 n∧n≤args.length∧Hid (Below W.heap.size W wr)∧Hid (allOf E.f.classes h args m.params=allOf E.f.classes h (args.drop n) (m.params.drop n))) (fun i _=>args.length - (intOf i).toNat)
 case atStart=>exact ⟨0,rfl,Nat.zero_le _,Lib.hid (Below.refl _ _),Lib.hid rfl⟩
 case round =>
  obtain ⟨n,rfl,hn,BW,HD⟩:=hrel
  by_cases hlt:n < args.length
  ·have hltp:n < m.params.length:=by omega
   have hni:(n:Int) < m.params.length:=by omega
   have hni2:(n:Int) < args.length:=by omega
   obtain ⟨pb,po,rfl,hpb,hpe⟩:=PEL.out n hltp
   obtain ⟨ab,ao,acap',heq,hc1,hc2,hab,hnx,hel⟩:=HA.out.form (by omega)
   simp only [Value.slice.injEq] at heq
   obtain ⟨rfl,_,rfl⟩:=heq
   obtain ⟨z0,z1⟩:=hel n hlt
   obtain ⟨v,hvv⟩:=at_of hlt
   obtain ⟨t,htt⟩:=at_of hltp
   rw [hvv.out] at z0 z1
   rw [htt.out] at hpe
   obtain ⟨y0,y1,_,_⟩:=hpe
   have hv3:v.kind=3→v.n < h.objs.length:=fun e=>by
    have hmem:v∈args:=by rw [← hvv.out];exact List.getElem_mem hlt
    exact ((hv v hmem).1.2.2.2 e).2
   have HBr:=Lib.hid (HB.out.trans (BW.out.mono (by omega)))
   have x0:=kept HBr.out (by omega) z0
   have x1:=kept HBr.out (by omega) z1
   have t0:=kept HBr.out (by omega) y0
   have t1:=kept HBr.out (by omega) y1
   have e0':=kept BW.out (by omega) e0
   have q0:=cell_lt x0
   have q1:=cell_lt t0
   have q2:=cell_lt e0'
   obtain ⟨tk,tc⟩:=t
   obtain ⟨vk,vn⟩:=v
   clear z0 z1 y0 y1 hel e0
   simp only at t0 t1 x0 x1
   go_wp2_with fail
   refine wp_region_panTo (fun c w'=>c=[{ v:=stopV 6,recovered:=false }]∧Below w.heap.size w w') (.pointer (some ⟨w.heap.size+1+1,0,none⟩)) 8 ?hF ?_
   case hF =>
    intro c a w' hc ha hd
    obtain ⟨rfl,hb⟩:=hc
    show Leaves _ _ a.tmps (InvR E L d w (.stop 6 h)) a.defers (.panicking [{ v:=stopV 6,recovered:=false }]) w'
    rw [hd]
    exact ⟨Pan.one _,Lft.of_below HH.out hb⟩
   refine Drawn.hd (fun w'=>w'.cell? ⟨w.heap.size,0,none⟩=some (.pointer (some ⟨E.hb,0,none⟩))∧w'.cell? ⟨ab,ao+n*2,none⟩=some (.int .i64 vk)∧w'.cell? ⟨ab,ao+n*2+1,none⟩=some (.int .i64 vn)∧w'.cell? ⟨wr.heap.size,0,none⟩=some (.int .i64 tk)∧w'.cell? ⟨wr.heap.size,1,none⟩=some (.int .i64 tc)) (h:=fun hHeld=>?_)
   refine Drawn.tk 0 (some 33) rfl rfl (by assumption) ?_ (hQ:=PanTo.put 33 (by decide) _)
   try simp only [Act.put,List.setIfInBounds_toArray,List.set_cons_zero,List.set_cons_succ]
   refine Drawn.tk 1 (some 34) rfl rfl (by assumption) ?_ (hQ:=PanTo.put 34 (by decide) _)
   try simp only [Act.put,List.setIfInBounds_toArray,List.set_cons_zero,List.set_cons_succ]
   refine Drawn.tk 2 (some 35) rfl rfl (by assumption) ?_ (hQ:=PanTo.put 35 (by decide) _)
   try simp only [Act.put,List.setIfInBounds_toArray,List.set_cons_zero,List.set_cons_succ]
   refine Drawn.tk 3 (some 36) rfl rfl (by assumption) ?_ (hQ:=PanTo.put 36 (by decide) _)
   try simp only [Act.put,List.setIfInBounds_toArray,List.set_cons_zero,List.set_cons_succ]
   refine Drawn.tk 4 (some 37) rfl rfl (by assumption) ?_ (hQ:=PanTo.put 37 (by decide) _)
   try simp only [Act.put,List.setIfInBounds_toArray,List.set_cons_zero,List.set_cons_succ]
   refine Drawn.tk 5 (some 38) rfl rfl (by assumption) ?_ (hQ:=PanTo.put 38 (by decide) _)
   try simp only [Act.put,List.setIfInBounds_toArray,List.set_cons_zero,List.set_cons_succ]
   refine Drawn.cl 6 (fun K hK=>?_)
   go_simp
   refine (of E L h d ⟨vk,vn⟩ ⟨tk,tc⟩ _ (HH.out.below (w':=(wr.alloc (.cells #[.int .i64 tk,.int .i64 tc] 50)).drew) (by have hb:=HBr.out;exact Rd.byB)) hm hv3).mono ?_
   rintro e w3 ⟨rfl,hb3⟩
   obtain ⟨p,hp⟩:∃ p,Hid (ofT E.f.classes h ⟨vk,vn⟩ ⟨tk,tc⟩=p):=⟨_,Lib.hid rfl⟩
   rw [hp.out]
   have kk:∀ (b o:Nat) (u:Value),World.cell? _ ⟨b,o,none⟩=some u→w3.cell? ⟨b,o,none⟩=some u:=fun b o u hc=>kept hb3 (cell_lt hc) hc
   have k0:=kk w.heap.size 0 (.pointer (some ⟨E.hb,0,none⟩)) (by go_simp)
   have k1:=kk ab (ao+n*2) (.int .i64 vk) (by go_simp)
   have k2:=kk ab (ao+n*2+1) (.int .i64 vn) (by go_simp)
   have k3:=kk wr.heap.size 0 (.int .i64 tk) (by go_simp)
   have k4:=kk wr.heap.size 1 (.int .i64 tc) (by go_simp)
   have HB3:=Lib.hid (show Below wr.heap.size wr w3 from Below.trans (by exact Rd.byB) (hb3.mono Rd.byL))
   clear kk hb3
   go_wp2_with fail
   refine Drawn.bk hK (hS:=by (try dsimp only);exact ⟨k0,k1,k2,k3,k4⟩) (h:=fun hHeld=>?_)
   clear hK K
   refine Drawn.cl 7 (fun K hK=>?_)
   go_simp
   cases p with
   | false =>
    refine (mustF _).mono ?_
    rintro e w4 ⟨rfl,rfl⟩
    go_wp2_with fail
    exact ⟨⟨rfl,HBr.out.trans (HB3.out.mono (by have:=HBr.out.size;omega))⟩,rfl,rfl⟩
   | true =>
    refine (mustT _).mono ?_
    rintro e w4 ⟨rfl,rfl⟩
    go_wp2_with fail
    refine Drawn.bk hK (hS:=by (try dsimp only);exact ⟨k0,k1,k2,k3,k4⟩) (h:=fun hHeld=>?_)
    clear hK K
    refine wpAnyH_done (by kernel_rfl) ?_ _
    show Exit.inBlock 1 _ .normal _ _
    go_wp2_with fail
    go_roundw
    case rel =>
     refine ⟨n+1,by go_num,hlt,Lib.hid (BW.out.trans (HB3.out.mono BW.out.size)),?_⟩
     show _=_
     rw [HD.out,List.drop_eq_getElem_cons hlt,List.drop_eq_getElem_cons hltp,hvv.out,htt.out]
     simp [allOf,hp.out]
    case measure=>first | (simp [intOf];done) | (simp [intOf];omega)
  ·exfalso
   obtain rfl:n=args.length:=by omega
   have h1:=HD.out
   rw [HC.out,List.drop_length,hlen,List.drop_length] at h1
   simp [allOf] at h1
end
end Hpw
namespace Hpw
open Num Rd D Run Mem HierW
section
variable {E:Ev}{w w' w1 w2:World}{L L' L1:Lay}{h h' h1 h2:Hp}{d:Nat}{m m2:Me}
set_option maxRecDepth 100000 in
theorem callDeep (hm:Hier.may E.f.classes=true) (H:PH E w L h d) (X:Nat→Prop){va:Value}(args:List Vl){vp vc vh:Value}(hVM:VMe w E.B (.agg #[vp,.int .i64 m.ret.kind,.int .i64 m.ret.cls,.int .i64 m.stack,.int .i64 m.locals,.int .i64 m.regs,vc,vh]) m) (ha:VS w X va args) (hlen:args.length=m.params.length) (h4:args.length≤4) (hv:∀ v∈args,VtOk h.objs.length v) (hc:allOf E.f.classes h args m.params=true) (hd:20≤d) (fv:Value) :
  Calls Tryz.prog 50 #[.pointer (some ⟨E.hb,0,none⟩),.agg #[vp,.int .i64 m.ret.kind,.int .i64 m.ret.cls,.int .i64 m.stack,.int .i64 m.locals,.int .i64 m.regs,vc,vh],va,fv] w (InvR E L d w (.stop 5 h)):=by
 have HH:=Lib.hid H
 obtain ⟨vp',vc',vh',hmv',oks,sps,sco,shs⟩:=hVM
 obtain ⟨rfl,rfl,rfl⟩:vp=vp'∧vc=vc'∧vh=vh':=by
  simp at hmv'
  exact ⟨hmv'.1,hmv'.2.1,hmv'.2.2⟩
 obtain ⟨pa,pcap,rfl,p1,p2,pel⟩:=id sps
 obtain ⟨ca,ccap,rfl,p3,p4,_⟩:=id sco
 obtain ⟨ha',hcap,rfl,p5,p6,_⟩:=id shs
 have HA:=Lib.hid ha
 obtain ⟨ax,acap,rfl,a1,a2⟩:=ha.len
 have PEL:=Lib.hid pel
 have hlq:((args.length:Int)==(m.params.length:Int))=true:=by rw [hlen];simp
 have hEB:E.B≤w.heap.size:=by have:=H.base;omega
 clear H ha hmv' sps sco shs pel
 go_enter_defers Tryz.func50,Tryz.ntmps50
 go_wp2_with fail
 refine (mustT _).mono ?_
 rintro e w2 ⟨rfl,rfl⟩
 go_wp2_with fail
 generalize hWW:World.alloc _ (.cells #[.int .i64 0,.int .i64 0] 46)=W
 replace hWW:=Lib.hid hWW
 have e0:W.cell? ⟨w.heap.size,0,none⟩=some (.pointer (some ⟨E.hb,0,none⟩)):=by rw [← hWW.out];go_simp
 have HB:=Lib.hid (show Below w.heap.size w W from by rw [← hWW.out];exact Rd.byB)
 have hsW:w.heap.size+2 < W.heap.size:=by rw [← hWW.out];simp
 clear hWW
 have HC:=Lib.hid hc
 clear hc
 go_loopw [28] (fun i wr=>∃ n:Nat,i=.int .i64 n∧n≤args.length∧Hid (Below W.heap.size W wr)∧Hid (allOf E.f.classes h args m.params=allOf E.f.classes h (args.drop n) (m.params.drop n))) (fun i _=>args.length - (intOf i).toNat)
 case atStart=>exact ⟨0,rfl,Nat.zero_le _,Lib.hid (Below.refl _ _),Lib.hid rfl⟩
 case round =>
  obtain ⟨n,rfl,hn,BW,HD⟩:=hrel
  by_cases hlt:n < args.length
  ·have hltp:n < m.params.length:=by omega
   have hni:(n:Int) < m.params.length:=by omega
   have hni2:(n:Int) < args.length:=by omega
   obtain ⟨pb,po,rfl,hpb,hpe⟩:=PEL.out n hltp
   obtain ⟨ab,ao,acap',heq,hc1,hc2,hab,hnx,hel⟩:=HA.out.form (by omega)
   simp only [Value.slice.injEq] at heq
   obtain ⟨rfl,_,rfl⟩:=heq
   obtain ⟨z0,z1⟩:=hel n hlt
   obtain ⟨v,hvv⟩:=at_of hlt
   obtain ⟨t,htt⟩:=at_of hltp
   rw [hvv.out] at z0 z1
   rw [htt.out] at hpe
   obtain ⟨y0,y1,_,_⟩:=hpe
   have hv3:v.kind=3→v.n < h.objs.length:=fun e=>by
    have hmem:v∈args:=by rw [← hvv.out];exact List.getElem_mem hlt
    exact ((hv v hmem).1.2.2.2 e).2
   have HBr:=Lib.hid (HB.out.trans (BW.out.mono (by omega)))
   have x0:=kept HBr.out (by omega) z0
   have x1:=kept HBr.out (by omega) z1
   have t0:=kept HBr.out (by omega) y0
   have t1:=kept HBr.out (by omega) y1
   have e0':=kept BW.out (by omega) e0
   have q0:=cell_lt x0
   have q1:=cell_lt t0
   have q2:=cell_lt e0'
   obtain ⟨tk,tc⟩:=t
   obtain ⟨vk,vn⟩:=v
   clear z0 z1 y0 y1 hel e0
   simp only at t0 t1 x0 x1
   go_wp2_with fail
   refine wp_region_noPanic ?_
   refine Drawn.hd (fun w'=>w'.cell? ⟨w.heap.size,0,none⟩=some (.pointer (some ⟨E.hb,0,none⟩))∧w'.cell? ⟨ab,ao+n*2,none⟩=some (.int .i64 vk)∧w'.cell? ⟨ab,ao+n*2+1,none⟩=some (.int .i64 vn)∧w'.cell? ⟨wr.heap.size,0,none⟩=some (.int .i64 tk)∧w'.cell? ⟨wr.heap.size,1,none⟩=some (.int .i64 tc)) (h:=fun hHeld=>?_)
   refine Drawn.tk 0 (some 33) rfl rfl (by assumption) ?_
   try simp only [Act.put,List.setIfInBounds_toArray,List.set_cons_zero,List.set_cons_succ]
   refine Drawn.tk 1 (some 34) rfl rfl (by assumption) ?_
   try simp only [Act.put,List.setIfInBounds_toArray,List.set_cons_zero,List.set_cons_succ]
   refine Drawn.tk 2 (some 35) rfl rfl (by assumption) ?_
   try simp only [Act.put,List.setIfInBounds_toArray,List.set_cons_zero,List.set_cons_succ]
   refine Drawn.tk 3 (some 36) rfl rfl (by assumption) ?_
   try simp only [Act.put,List.setIfInBounds_toArray,List.set_cons_zero,List.set_cons_succ]
   refine Drawn.tk 4 (some 37) rfl rfl (by assumption) ?_
   try simp only [Act.put,List.setIfInBounds_toArray,List.set_cons_zero,List.set_cons_succ]
   refine Drawn.tk 5 (some 38) rfl rfl (by assumption) ?_
   try simp only [Act.put,List.setIfInBounds_toArray,List.set_cons_zero,List.set_cons_succ]
   refine Drawn.cl 6 (fun K hK=>?_)
   go_simp
   refine (of E L h d ⟨vk,vn⟩ ⟨tk,tc⟩ _ (HH.out.below (w':=(wr.alloc (.cells #[.int .i64 tk,.int .i64 tc] 50)).drew) (by have hb:=HBr.out;exact Rd.byB)) hm hv3).mono ?_
   rintro e w3 ⟨rfl,hb3⟩
   obtain ⟨p,hp⟩:∃ p,Hid (ofT E.f.classes h ⟨vk,vn⟩ ⟨tk,tc⟩=p):=⟨_,Lib.hid rfl⟩
   rw [hp.out]
   have kk:∀ (b o:Nat) (u:Value),World.cell? _ ⟨b,o,none⟩=some u→w3.cell? ⟨b,o,none⟩=some u:=fun b o u hc=>kept hb3 (cell_lt hc) hc
   have k0:=kk w.heap.size 0 (.pointer (some ⟨E.hb,0,none⟩)) (by go_simp)
   have k1:=kk ab (ao+n*2) (.int .i64 vk) (by go_simp)
   have k2:=kk ab (ao+n*2+1) (.int .i64 vn) (by go_simp)
   have k3:=kk wr.heap.size 0 (.int .i64 tk) (by go_simp)
   have k4:=kk wr.heap.size 1 (.int .i64 tc) (by go_simp)
   have HB3:=Lib.hid (show Below wr.heap.size wr w3 from Below.trans (by exact Rd.byB) (hb3.mono Rd.byL))
   clear kk hb3
   go_wp2_with fail
   refine Drawn.bk hK (hS:=by (try dsimp only);exact ⟨k0,k1,k2,k3,k4⟩) (h:=fun hHeld=>?_)
   clear hK K
   refine Drawn.cl 7 (fun K hK=>?_)
   go_simp
   cases p with
   | false =>
    exfalso
    have h1:=HD.out
    rw [HC.out,List.drop_eq_getElem_cons hlt,List.drop_eq_getElem_cons hltp,hvv.out,htt.out] at h1
    simp [allOf,hp.out] at h1
   | true =>
    refine (mustT _).mono ?_
    rintro e w4 ⟨rfl,rfl⟩
    go_wp2_with fail
    refine Drawn.bk hK (hS:=by (try dsimp only);exact ⟨k0,k1,k2,k3,k4⟩) (h:=fun hHeld=>?_)
    clear hK K
    refine wpAnyH_done (by kernel_rfl) ?_ _
    refine NoPanic.normal ?_
    go_wp2_with fail
    go_roundw
    case rel =>
     refine ⟨n+1,by go_num,hlt,Lib.hid (BW.out.trans (HB3.out.mono BW.out.size)),?_⟩
     show _=_
     rw [HD.out,List.drop_eq_getElem_cons hlt,List.drop_eq_getElem_cons hltp,hvv.out,htt.out]
     simp [allOf,hp.out]
    case measure=>first | (simp [intOf];done) | (simp [intOf];omega)
  ·obtain rfl:n=args.length:=by omega
   have hn2:¬ ((args.length:Int) < m.params.length):=by omega
   have hn3:¬ (args.length < m.params.length):=by omega
   have HBr:=Lib.hid (HB.out.trans (BW.out.mono (by omega)))
   have c10:=(HH.out.below HBr.out).c10
   have e0':=kept BW.out (by omega) e0
   have hdd:decide ((20:Int)≤d)=true:=by simp;omega
   clear e0
   go_wp2_with fail
   exact ⟨Pan.one _,Lft.of_below HH.out HBr.out⟩
end
end Hpw
namespace Hpw
open Num Rd D Run Mem HierW
structure PS where
 cb:Nat
 lb:Nat
 vp:Value
 vc:Value
 vh:Value
def mcs (P:PS) (m:Me):List Value:=[P.vp,.int .i64 m.ret.kind,.int .i64 m.ret.cls,.int .i64 m.stack,.int .i64 m.locals,.int .i64 m.regs,P.vc,P.vh]
def fcs (E:Ev) (P:PS) (m:Me) (fr:Sf) (vs:Value):List Value:=.pointer (some ⟨E.hb,0,none⟩) :: (mcs P m++[.slice (some ⟨P.lb,0,none⟩) fr.loc.length fr.loc.length,vs,.int .i64 fr.at_])
def fo (E:Ev) (L:Lay) (P:PS) (vs:Value) (k:Nat):Prop:=own E L k∨k=P.cb∨k=P.lb∨vs.ownBlock=some k
structure Mi (E:Ev) (w:World) (P:PS) (m:Me):Prop where
 ps:Sl 2 ETy w E.B P.vp m.params
 co:Sl 6 EIns w E.B P.vc m.code
 hs:Sl 4 EHd w E.B P.vh m.handlers
 ok:Ok m.ret.kind∧Ok m.ret.cls∧Ok m.stack∧Ok m.locals∧Ok m.regs
theorem Mi.mono {E:Ev}{w w':World}{P:PS}{m:Me}(M:Mi E w P m) (hb:Below E.B w w'):Mi E w' P m :=
 ⟨M.ps.mono mTy hb (Nat.le_refl _),M.co.mono mIns hb (Nat.le_refl _),M.hs.mono mHd hb (Nat.le_refl _),M.ok⟩
structure ST (E:Ev) (w:World) (L:Lay) (P:PS) (m:Me) (d:Nat) (h:Hp) (fr:Sf) (vs:Value):Prop where
 H:PH E w L h d
 M:Mi E w P m
 blk:Blk w P.cb (fcs E P m fr vs)
 loc:Blk w P.lb (vcells fr.loc)
 lbw:P.lb < w.heap.size
 stk:w.ownsRow E.B 46 2 vs fr.stk.length (vcells fr.stk)
 lo:E.B≤P.cb∧E.B≤P.lb
 far:¬ own E L P.cb∧¬ own E L P.lb∧∀ g,vs.ownBlock=some g→¬ own E L g
 ne:P.cb≠P.lb∧vs.ownBlock≠some P.cb∧vs.ownBlock≠some P.lb
def LftF (E:Ev) (L:Lay) (P:PS) (m:Me) (d:Nat) (vs:Value) (w w':World) (h:Hp) (fr:Sf):Prop :=
 ∃ L' vs',Kp (fo E L P vs) w w'∧(∀ k,own E L' k→own E L k∨w.heap.size≤k)∧(∀ k,vs'.ownBlock=some k→vs.ownBlock=some k∨w.heap.size≤k)∧ST E w' L' P m d h fr vs'
def LftS (E:Ev) (L:Lay) (P:PS) (d:Nat) (vs:Value) (w w':World) (h:Hp):Prop :=
 ∃ L',Kp (fo E L P vs) w w'∧(∀ k,own E L' k→own E L k∨w.heap.size≤k)∧PH E w' L' h d
def PlR (E:Ev) (L:Lay) (P:PS) (m:Me) (d:Nat) (vs:Value) (fr:Sf) (V:Value) (w:World) (a:Out Sf) (e:Ending) (w':World):Prop:=match a with
 | .go fr' h=>e=.returned V∧LftF E L P m d vs w w' h ⟨fr'.loc,fr'.stk,fr.at_⟩
 | .back _ _=>False
 | .thrown o h=>Pan (thrownV o) e∧∃ st,LftF E L P m d vs w w' h ⟨fr.loc,st,fr.at_⟩
 | .stop c h=>Pan (stopV c) e∧LftS E L P d vs w w' h
section
variable {E:Ev}{w w' w1 w2:World}{L L' L1:Lay}{h h' h1 h2:Hp}{d:Nat}{P:PS}{m:Me}{fr fr' fr1:Sf}{vs vs1:Value}
theorem ST.cbw (S:ST E w L P m d h fr vs):P.cb < w.heap.size:=cell_lt (S.blk 0 (by simp [fcs,mcs])).1
theorem ST.base (S:ST E w L P m d h fr vs):E.B≤w.heap.size:=Nat.le_of_lt (Nat.lt_of_le_of_lt S.lo.1 S.cbw)
theorem ST.fo_lo (S:ST E w L P m d h fr vs){k:Nat}(hk:fo E L P vs k):E.B≤k∧k < w.heap.size:=by
 rcases hk with e | e | e | e
 ·exact own_lo S.H e
 ·subst e;exact ⟨S.lo.1,S.cbw⟩
 ·subst e;exact ⟨S.lo.2,S.lbw⟩
 ·exact World.ownsRow.lt S.stk k e
theorem ST.bel (S:ST E w L P m d h fr vs) (K:Kp (fo E L P vs) w w'):Below E.B w w':=K.below S.base (fun x hx=>(S.fo_lo hx).1)
theorem ST.c0 (S:ST E w L P m d h fr vs):w.cell? ⟨P.cb,0,none⟩=some (.pointer (some ⟨E.hb,0,none⟩)):=(S.blk 0 (by simp [fcs,mcs])).1
theorem ST.c1 (S:ST E w L P m d h fr vs):w.cell? ⟨P.cb,1,none⟩=some P.vp:=(S.blk 1 (by simp [fcs,mcs])).1
theorem ST.c2 (S:ST E w L P m d h fr vs):w.cell? ⟨P.cb,2,none⟩=some (.int .i64 m.ret.kind):=(S.blk 2 (by simp [fcs,mcs])).1
theorem ST.c3 (S:ST E w L P m d h fr vs):w.cell? ⟨P.cb,3,none⟩=some (.int .i64 m.ret.cls):=(S.blk 3 (by simp [fcs,mcs])).1
theorem ST.c4 (S:ST E w L P m d h fr vs):w.cell? ⟨P.cb,4,none⟩=some (.int .i64 m.stack):=(S.blk 4 (by simp [fcs,mcs])).1
theorem ST.c7 (S:ST E w L P m d h fr vs):w.cell? ⟨P.cb,7,none⟩=some P.vc:=(S.blk 7 (by simp [fcs,mcs])).1
theorem ST.c9 (S:ST E w L P m d h fr vs):w.cell? ⟨P.cb,9,none⟩=some (.slice (some ⟨P.lb,0,none⟩) fr.loc.length fr.loc.length):=(S.blk 9 (by simp [fcs,mcs])).1
theorem ST.c10 (S:ST E w L P m d h fr vs):w.cell? ⟨P.cb,10,none⟩=some vs:=(S.blk 10 (by simp [fcs,mcs])).1
theorem ST.c11 (S:ST E w L P m d h fr vs):w.cell? ⟨P.cb,11,none⟩=some (.int .i64 fr.at_):=(S.blk 11 (by simp [fcs,mcs])).1
theorem ST.fz (S:ST E w L P m d h fr vs) (k:Nat) (hk:k < 12):w.frozen? ⟨P.cb,k,none⟩=false:=(S.blk k (by simp [fcs,mcs];exact hk)).2
theorem ST.heap (S:ST E w L P m d h fr vs) (K:Kp (own E L) w w') (N:∀ k,own E L' k→own E L k∨w.heap.size≤k) (H:PH E w' L' h' d):ST E w' L' P m d h' fr vs:=by
 have hc:=S.cbw
 have hl:=S.lbw
 have far:∀ k,k < w.heap.size→¬ own E L k→¬ own E L' k:=fun k hlt hn hk=>by
  rcases N k hk with q | q
  ·exact hn q
  ·omega
 exact ⟨H,S.M.mono (K.below S.base (fun k hk=>(own_lo S.H hk).1)),S.blk.next K S.far.1,S.loc.next K S.far.2.1,Nat.lt_of_lt_of_le hl K.size,row_keep S.stk K S.far.2.2,S.lo,⟨far _ hc S.far.1,far _ hl S.far.2.1,fun g hg=>far _ (World.ownsRow.lt S.stk g hg).2 (S.far.2.2 g hg)⟩,S.ne⟩
theorem ST.below (S:ST E w L P m d h fr vs) (hb:Below w.heap.size w w'):ST E w' L P m d h fr vs:=S.heap (kpB hb) same_own (S.H.below hb)
theorem ST.lft (S:ST E w L P m d h fr vs) (hb:Below w.heap.size w w'):LftF E L P m d vs w w' h fr:=⟨L,vs,Mem.Kp.of_below hb (Nat.le_refl _),same_own,fun _ e=>.inl e,S.below hb⟩
theorem ST.lftH (S:ST E w L P m d h fr vs) (A:Lft E L d w w' h'):LftF E L P m d vs w w' h' fr:=by
 obtain ⟨L',K,N,H⟩:=A
 exact ⟨L',vs,K.mono (fun k hk=>.inl hk),N,fun _ e=>.inl e,S.heap K N H⟩
theorem LftF.trans (A:LftF E L P m d vs w w1 h1 fr1) (B:∀ L1 vs1,ST E w1 L1 P m d h1 fr1 vs1→(∀ k,own E L1 k→own E L k∨w.heap.size≤k)→LftF E L1 P m d vs1 w1 w2 h2 fr):LftF E L P m d vs w w2 h2 fr:=by
 obtain ⟨L1,vs1,K,N,V,S⟩:=A
 obtain ⟨L2,vs2,K2,N2,V2,S2⟩:=B L1 vs1 S N
 have hs:=K.size
 refine ⟨L2,vs2,K.trans K2 (fun y hy=>?_),fun k hk=>(N2 k hk).elim (N k) (fun q=>.inr (by omega)),fun k hk=>(V2 k hk).elim (V k) (fun q=>.inr (by omega)),S2⟩
 rcases hy with e | e | e | e
 ·exact (N y e).imp .inl id
 ·exact .inl (.inr (.inl e))
 ·exact .inl (.inr (.inr (.inl e)))
 ·exact (V y e).imp (fun q=>.inr (.inr (.inr q))) id
theorem LftF.transS (A:LftF E L P m d vs w w1 h1 fr1) (B:∀ L1 vs1,ST E w1 L1 P m d h1 fr1 vs1→(∀ k,own E L1 k→own E L k∨w.heap.size≤k)→LftS E L1 P d vs1 w1 w2 h2):LftS E L P d vs w w2 h2:=by
 obtain ⟨L1,vs1,K,N,V,S⟩:=A
 obtain ⟨L2,K2,N2,S2⟩:=B L1 vs1 S N
 have hs:=K.size
 refine ⟨L2,K.trans K2 (fun y hy=>?_),fun k hk=>(N2 k hk).elim (N k) (fun q=>.inr (by omega)),S2⟩
 rcases hy with e | e | e | e
 ·exact (N y e).imp .inl id
 ·exact .inl (.inr (.inl e))
 ·exact .inl (.inr (.inr (.inl e)))
 ·exact (V y e).imp (fun q=>.inr (.inr (.inr q))) id
theorem LftF.stop (A:LftF E L P m d vs w w' h fr):LftS E L P d vs w w' h:=by
 obtain ⟨L1,vs1,K,N,V,S⟩:=A
 exact ⟨L1,K,N,S.H⟩
theorem LftF.below (A:LftF E L P m d vs w w1 h fr) (hb:Below w1.heap.size w1 w2):LftF E L P m d vs w w2 h fr:=A.trans (fun _ _ S _=>S.lft hb)
theorem LftS.below (A:LftS E L P d vs w w1 h) (hb:Below w1.heap.size w1 w2):LftS E L P d vs w w2 h:=by
 obtain ⟨L1,K,N,S⟩:=A
 exact ⟨L1,kb K hb,N,S.below hb⟩
theorem Lft.stop (S:ST E w L P m d h fr vs) (A:Lft E L d w w' h'):LftS E L P d vs w w' h':=(S.lftH A).stop
theorem ST.setStackE (S:ST E w L P m d h fr vs){v2:Value}{st:List Vl}(K:Kp (fun k=>vs.ownBlock=some k) w w2) (R:w2.ownsRow E.B 46 2 v2 st.length (vcells st)) (N:∀ g,v2.ownBlock=some g→vs.ownBlock=some g∨w.heap.size≤g) :
  Kp (fo E L P vs) w (w2.setCell ⟨P.cb,10,none⟩ v2)∧ST E (w2.setCell ⟨P.cb,10,none⟩ v2) L P m d h ⟨fr.loc,st,fr.at_⟩ v2:=by
 have hcb:=S.cbw
 have hlb:=S.lbw
 have K2:Kp (fun k=>k=P.cb) w2 (w2.setCell ⟨P.cb,10,none⟩ v2):=Kp.setCell (Kp.refl (fun k=>k=P.cb) w2) (p:=⟨P.cb,10,none⟩) (.inl rfl) v2
 have KX:Kp (fun k=>vs.ownBlock=some k∨k=P.cb) w (w2.setCell ⟨P.cb,10,none⟩ v2):=(K.mono (fun k hk=>.inl hk)).trans K2 (fun y e=>.inl (.inr e))
 have ncb:v2.ownBlock≠some P.cb:=fun e=>(N _ e).elim S.ne.2.1 (fun q=>by omega)
 have nlb:v2.ownBlock≠some P.lb:=fun e=>(N _ e).elim S.ne.2.2 (fun q=>by omega)
 refine ⟨KX.mono (fun k hk=>hk.elim (fun e=>.inr (.inr (.inr e))) (fun e=>.inr (.inl e))),?_⟩
 refine ⟨S.H.keep KX (fun k hk=>?_),S.M.mono (KX.below S.base (fun k hk=>?_)),?_,S.loc.next KX (fun e=>e.elim S.ne.2.2 (fun e=>S.ne.1 e.symm)),Nat.lt_of_lt_of_le hlb KX.size,row_keep R K2 (fun g hg e=>ncb (e ▸ hg)),S.lo,⟨S.far.1,S.far.2.1,fun g hg=>?_⟩,⟨S.ne.1,ncb,nlb⟩⟩
 ·rcases hk with e | e
  ·exact ⟨(World.ownsRow.lt S.stk k e).1,S.far.2.2 k e⟩
  ·subst e;exact ⟨S.lo.1,S.far.1⟩
 ·rcases hk with e | e
  ·exact (World.ownsRow.lt S.stk k e).1
  ·subst e;exact S.lo.1
 ·have B2:Blk w2 P.cb (fcs E P m fr vs):=S.blk.next K (fun e=>S.ne.2.1 e)
  exact B2.set 10 (by simp [fcs,mcs]) v2
 ·rcases N g hg with e | e
  ·exact S.far.2.2 g e
  ·exact (fresh_b S.H e).2
theorem ST.setStack (S:ST E w L P m d h fr vs){v2:Value}{st:List Vl}(K:Kp (fun k=>vs.ownBlock=some k) w w2) (R:w2.ownsRow E.B 46 2 v2 st.length (vcells st)) (N:∀ g,v2.ownBlock=some g→vs.ownBlock=some g∨w.heap.size≤g) :
  LftF E L P m d vs w (w2.setCell ⟨P.cb,10,none⟩ v2) h ⟨fr.loc,st,fr.at_⟩ :=
 ⟨L,v2,(S.setStackE K R N).1,same_own,N,(S.setStackE K R N).2⟩
theorem ST.setAt (S:ST E w L P m d h fr vs) (a:Nat):LftF E L P m d vs w (w.setCell ⟨P.cb,11,none⟩ (.int .i64 a)) h ⟨fr.loc,fr.stk,a⟩:=by
 have K:Kp (fun k=>k=P.cb) w (w.setCell ⟨P.cb,11,none⟩ (.int .i64 a)):=Kp.setCell (Kp.refl (fun k=>k=P.cb) w) (p:=⟨P.cb,11,none⟩) (.inl rfl) _
 refine ⟨L,vs,K.mono (fun k e=>.inr (.inl e)),same_own,fun _ e=>.inl e,?_⟩
 exact ⟨S.H.keep K (fun k e=>by subst e;exact ⟨S.lo.1,S.far.1⟩),S.M.mono (K.below S.base (fun k e=>by subst e;exact S.lo.1)),S.blk.set 11 (by simp [fcs,mcs]) _,S.loc.next K (fun e=>S.ne.1 e.symm),Nat.lt_of_lt_of_le S.lbw K.size,row_keep S.stk K (fun g hg e=>S.ne.2.1 (e ▸ hg)),S.lo,S.far,S.ne⟩
theorem ST.setLoc (S:ST E w L P m d h fr vs){l:List Vl}(hl:l.length=fr.loc.length) (K:Kp (fun k=>k=P.lb) w w') (B:Blk w' P.lb (vcells l)):LftF E L P m d vs w w' h ⟨l,fr.stk,fr.at_⟩:=by
 refine ⟨L,vs,K.mono (fun k e=>.inr (.inr (.inl e))),same_own,fun _ e=>.inl e,?_⟩
 refine ⟨S.H.keep K (fun k e=>by subst e;exact ⟨S.lo.2,S.far.2.1⟩),S.M.mono (K.below S.base (fun k e=>by subst e;exact S.lo.2)),?_,B,Nat.lt_of_lt_of_le S.lbw K.size,row_keep S.stk K (fun g hg e=>S.ne.2.2 (e ▸ hg)),S.lo,S.far,S.ne⟩
 have:=S.blk.next K S.ne.1
 unfold fcs at this ⊢
 rw [hl]
 exact this
theorem PlR.after (A:LftF E L P m d vs w w1 h1 fr1) (hl:fr1.loc=fr.loc) (ha:fr1.at_=fr.at_){V:Value}{a:Out Sf}{e:Ending}(B:∀ L1 vs1,ST E w1 L1 P m d h1 fr1 vs1→(∀ k,own E L1 k→own E L k∨w.heap.size≤k)→PlR E L1 P m d vs1 fr1 V w1 a e w2):PlR E L P m d vs fr V w a e w2:=by
 obtain ⟨L1,vs1,K,N,W,S⟩:=id A
 cases a with
 | go fr' h' =>
  have B':=fun L1 vs1 S N=>(B L1 vs1 S N).2
  rw [ha] at B'
  exact ⟨(B L1 vs1 S N).1,A.trans B'⟩
 | back v h'=>exact B L1 vs1 S N
 | thrown o h' =>
  obtain ⟨hp,st,hx⟩:=B L1 vs1 S N
  rw [hl,ha] at hx
  obtain ⟨L2,vs2,K2,N2,V2,S2⟩:=hx
  refine ⟨hp,st,?_⟩
  have hs:=K.size
  refine ⟨L2,vs2,K.trans K2 (fun y hy=>?_),fun k hk=>(N2 k hk).elim (N k) (fun q=>.inr (by omega)),fun k hk=>(V2 k hk).elim (W k) (fun q=>.inr (by omega)),S2⟩
  rcases hy with e | e | e | e
  ·exact (N y e).imp .inl id
  ·exact .inl (.inr (.inl e))
  ·exact .inl (.inr (.inr (.inl e)))
  ·exact (W y e).imp (fun q=>.inr (.inr (.inr q))) id
 | stop c h'=>exact ⟨(B L1 vs1 S N).1,A.transS (fun L1 vs1 S N=>(B L1 vs1 S N).2)⟩
end
end Hpw
end Go.Proofs.YtncmhenfgbcihabGreat
