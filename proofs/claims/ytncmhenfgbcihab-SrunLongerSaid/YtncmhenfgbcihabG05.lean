/- Parts of the proof: Pe, NumW, Pg, Out, Stk, RunT, Ouk, Pf. -/
import Derived.Test.YtncmhenfgbcihabG04
import Derived.Test.YtncmhenfgbcihabG01
import Derived.Test.YtncmhenfgbcihabRows
import Derived.WalkKit
import Derived.WalkSpells
import Derived.WalkLawsBesides
import Derived.Test.YtncmhenfgbcihabG02
namespace Go.Proofs.Ytncmhenfgbcihab
open Go.RowKit
set_option linter.unusedSimpArgs false
set_option linter.unusedVariables false
namespace Hpw
open Num Rd D Run Mem HierW
theorem atOf {l : List Cls} {c : Nat} {x : Cls} (hc : c < l.length) (hx : l[c] = x) : Hier.at' l c = x:=by rw [Hier.at_eq hc,hx]
theorem mapIs_become {es' : Array MapEntry} {pm pm' held : List ((Int × Int) × Vl)} {k : Int × Int} {v : Vl} (h1 : es'.toList.map (fun e=>(e.key,e.val)) = pm'.map (fun x=>(keyV x.1,vval x.2))) (h2 : ∀ k',look pm' k' = if k' = k then some v else look pm k') (h3 : ∀ k,look pm k = look held k) (hk : k ∈ held.map (·.1)) : MapIs es' (become held k v):=by
  refine ⟨pm',h1,fun k'=>?_⟩
  rw [h2,h3]
  clear h1 h2 h3
  induction held with
  | nil=>simp at hk
  | cons x held ih =>
    unfold look become
    simp only [List.map_cons,List.find?_cons]
    by_cases e : x.1 = k
    · rw [if_pos e]
      by_cases e2 : k' = k
      · subst e2;simp
      · have e3 : ¬ k = k':=fun q=>e2 q.symm
        have e4 : ¬ x.1 = k':=fun q=>e2 (q.symm.trans e)
        simp only [e2,e3,e4,decide_false,if_false]
        by_cases hm : k ∈ held.map (·.1)
        · have:=ih hm
          rw [if_neg e2] at this
          exact this
        · have hb : become held k v = held := by
            unfold become
            refine (List.map_congr_left (g:=id) (fun y hy=>?_)).trans (List.map_id _)
            have hy1 : y.1 ≠ k:=fun q=>hm (q ▸ List.mem_map.2 ⟨y,hy,rfl⟩)
            rw [if_neg hy1];rfl
          unfold become at hb
          rw [hb]
    · rw [if_neg e]
      have hm : k ∈ held.map (·.1):=by
        rcases List.mem_cons.1 hk with q | q
        · exact absurd q.symm e
        · exact q
      have:=ih hm
      unfold look become at this
      by_cases e3 : x.1 = k'
      · have e4 : ¬ k' = k:=fun q=>e (e3.trans q)
        simp [e3,e4]
      · simp only [e3,decide_false]
        exact this
section
variable {E : Ev} {w w' wr W w2 : World} {L L' : Lay} {h h' : Hp} {d : Nat}
def putH (h : Hp) (n : Int) (k : Int × Int) (v : Vl) : Hp:={ h with objs:=h.objs.set n.toNat ⟨(obj h n).cls,become (obj h n).held k v⟩ }
theorem put_type {l : List Cls} {r v : Vl} {c k : Int} {t : Ty} (h1 : ofT l h v t = false) : Run.put l r c k v t h = .stop 6 h:=by unfold Run.put;rw [if_pos h1]
theorem put_stuck {l : List Cls} {r v : Vl} {c k : Int} {t : Ty} (h1 : ofT l h v t = true) (h2 : ofT l h r ⟨3,c⟩ = false) : Run.put l r c k v t h = .stop 6 h:=by unfold Run.put;rw [if_neg (by rw [h1];simp),if_pos h2]
theorem put_raise {l : List Cls} {r v : Vl} {c k : Int} {t : Ty} (h1 : ofT l h v t = true) (h2 : ofT l h r ⟨3,c⟩ = true) (hn : r.n < 0) : Run.put l r c k v t h = raise l 1 h:=by unfold Run.put;rw [if_neg (by rw [h1];simp),if_neg (by rw [h2];simp),if_pos hn]
theorem put_okU {l : List Cls} {r v : Vl} {c k : Int} {t : Ty} (h1 : ofT l h v t = true) (h2 : ofT l h r ⟨3,c⟩ = true) (hn : ¬ r.n < 0) : Run.put l r c k v t h = .ok () (putH h r.n (c,k) v):=by unfold Run.put;rw [if_neg (by rw [h1];simp),if_neg (by rw [h2];simp),if_neg hn];rfl
theorem PH.setMap (H : PH E w L h d) (hW : Below w.heap.size w W) {n : Int} (h0 : 0 ≤ n) (h1 : n < h.objs.length) {o : Ob} (ho : o.cls = (obj h n).cls) {r : Nat} (hr : L.mbs.getD n.toNat 0 = r) {es' : Array MapEntry} {c' : Nat} (hm : MapIs es' o.held) : Lft E L d w (W.putObj r (.map es' c')) { h with objs:=h.objs.set n.toNat o }:=by
  have HW:=H.below hW
  have hi : n.toNat < L.mbs.length:=by have:=H.many;omega
  have er : L.mbs[n.toNat] = r:=by rw [← hr,List.getD_eq_getElem?_getD,List.getElem?_eq_getElem hi];rfl
  have hmem : r ∈ L.mbs:=er ▸ List.getElem_mem hi
  have hrW : r < W.heap.size:=by
    obtain ⟨es,c,g1,_⟩:=HW.maps n.toNat hi
    rw [er] at g1
    exact (Array.getElem?_eq_some_iff.1 g1).1
  have K : Kp (fun k=>k = r) W (W.putObj r (.map es' c')):=⟨rfl,rfl,rfl,by simp [World.putObj],fun k hk hn=>World.putObj_heap_other (fun e=>hn e)⟩
  have KK : Kp (own E L) w (W.putObj r (.map es' c')):=(kpB hW : Kp (own E L) w W).trans K (fun y e=>.inl (by subst e;exact .inr (.inr (.inr hmem))))
  have hb0 : E.B ≤ w.heap.size:=by have:=H.base;omega
  have hlo : ∀ k,own E L k → E.B ≤ k:=fun k hk=>(own_lo H hk).1
  obtain ⟨es0,c0,m0,_⟩:=HW.maps n.toNat hi
  rw [er] at m0
  obtain ⟨n1,n2,n3⟩:=hb_no H
  refine ⟨L,KK,same_own,?_⟩
  refine ⟨HW.cells.next K (fun e=>n3 (by rw [e];exact hmem)),KK.sl mCls H.cls hb0 hlo,KK.sl mMe H.mes hb0 hlo,KK.sl mInt H.inp hb0 hlo,row_keep HW.out K (fun g hg e=>row_nomap HW.out hg (e ▸ m0)),?_,by simpa using H.many,fun i hi2=>?_,⟨H.base.1,Nat.lt_of_lt_of_le H.base.2.1 KK.size,H.base.2.2⟩,H.apart,H.nodup⟩
  · have e1 : ocells (h.objs.set n.toNat o) L.mbs = ocells h.objs L.mbs := by
      have key : ∀ (os : List Ob) (bs : List Nat) (i : Nat),(os.getD i nilOb).cls = o.cls ∨ os.length ≤ i → ocells (os.set i o) bs = ocells os bs:=by
        intro os
        induction os with
        | nil=>intro bs i _;rfl
        | cons x os ih =>
          intro bs i hx
          cases bs with
          | nil=>cases i <;> rfl
          | cons b bs =>
            cases i with
            | zero =>
              have : x.cls = o.cls:=by
                rcases hx with hx | hx
                · exact hx
                · simp at hx
              simp [ocells,ocell,this]
            | succ i =>
              simp only [List.set_cons_succ,ocells]
              rw [ih bs i (by simpa using hx)]
      exact key h.objs L.mbs n.toNat (.inl ho.symm)
    simp only [List.length_set,e1]
    exact row_keep HW.objs K (fun g hg e=>row_nomap HW.objs hg (e ▸ m0))
  · by_cases e : i = n.toNat
    · subst e
      refine ⟨es',c',?_,?_⟩
      · rw [er];exact World.putObj_heap_same hrW
      · have : (h.objs.set n.toNat o).getD n.toNat nilOb = o := by
          rw [List.getD_eq_getElem?_getD,List.getElem?_set_self (by omega)];rfl
        simp only [this]
        exact hm
    · obtain ⟨es,c,g1,g2⟩:=HW.maps i hi2
      have hne : L.mbs[i] ≠ r:=fun q=>by
        have : L.mbs[i] = L.mbs[n.toNat]:=by rw [q,er]
        exact e ((List.getElem_inj H.nodup).1 this)
      refine ⟨es,c,?_,?_⟩
      · rw [K.block _ (Array.getElem?_eq_some_iff.1 g1).1 hne];exact g1
      · have : (h.objs.set n.toNat o).getD i nilOb = h.objs.getD i nilOb := by
          rw [List.getD_eq_getElem?_getD,List.getD_eq_getElem?_getD,List.getElem?_set_ne (by omega)]
        simp only [this]
        exact g2
set_option maxRecDepth 100000 in
set_option maxHeartbeats 4000000 in
theorem putType (H : PH E w L h d) (hm : Hier.may E.f.classes = true) (r v : Vl) (c k : Nat) (hv : v.kind = 3 → v.n < h.objs.length) (hc : c < E.f.classes.length) (hk : k < (Hier.at' E.f.classes c).fields.length) (ht : ofT E.f.classes h v (ftype E.f.classes c k) = false) :
    Calls Try.prog 222 #[.pointer (some ⟨E.hb,0,none⟩),.agg #[.int .i64 r.kind,.int .i64 r.n],.int .i64 c,.int .i64 k,.agg #[.int .i64 v.kind,.int .i64 v.n]] w fun e w'=>e = pan (stopV 6) ∧ Lft E L d w w' h:=by
  have HH:=Lib.hid H
  have hhb:=H.hbw
  have hp:=Lib.hid ht
  have b0:=H.c0
  obtain ⟨ca,ccap,hvc,c1,c2,hel⟩:=id H.cls
  obtain ⟨cb,co,rfl,hcb,he⟩:=hel c hc
  obtain ⟨x,hx⟩:=at_of hc
  rw [hx.out] at he
  obtain ⟨_,_,fv,e2,hf⟩:=he
  have hfx : Hier.at' E.f.classes c = x:=atOf hc hx.out
  rw [hfx] at hk
  obtain ⟨fa,fcap,rfl,c3,c4,hfe⟩:=hf
  obtain ⟨fb,fo,rfl,hfb,hfe2⟩:=hfe k hk
  obtain ⟨t,htt⟩:=at_of hk
  rw [htt.out] at hfe2
  obtain ⟨t1,t2,_,_⟩:=hfe2
  have hft : Hid (ftype E.f.classes c k = t):=by
    show _ = _
    unfold ftype
    rw [Int.toNat_natCast,Int.toNat_natCast,hfx,List.getD_eq_getElem?_getD,List.getElem?_eq_getElem hk,htt.out];rfl
  rw [hft.out] at hp
  rw [hvc] at b0
  have hci : (c : Int) < E.f.classes.length:=by omega
  have hki : (k : Int) < x.fields.length:=by omega
  have hbs : E.B ≤ w.heap.size:=by have:=H.base;omega
  have lcb : cb < w.heap.size:=by omega
  have lfb : fb < w.heap.size:=by omega
  have HV:=Lib.hid hv
  clear H ht hvc hel hfx hfe hv
  go_enter Try.func222,Try.ntmps222
  go_wp2
  refine wp_region_held_drew (S:=fun w'=>w'.cell? ⟨E.hb,0,none⟩ = some (.slice (some ⟨cb,co,none⟩) E.f.classes.length ccap) ∧ w'.cell? ⟨cb,co + c * 2 + 1,none⟩ = some (.slice (some ⟨fb,fo,none⟩) x.fields.length fcap) ∧ w'.cell? ⟨fb,fo + k * 2,none⟩ = some (.int .i64 t.kind) ∧ w'.cell? ⟨fb,fo + k * 2 + 1,none⟩ = some (.int .i64 t.cls) ∧ w'.cell? ⟨w.heap.size + 1,0,none⟩ = some (.int .i64 v.kind) ∧ w'.cell? ⟨w.heap.size + 1,1,none⟩ = some (.int .i64 v.n)) (by kernel_rfl) (by (try dsimp only);refine ⟨?_,?_,?_,?_,?_,?_⟩ <;> go_simp) (fun hHeld=>?_)
  refine Drawn.tk 0 (some 12) rfl rfl (by assumption) ?_
  try simp only [Act.put,Drawn.La,Drawn.Lb,Drawn.Lc]
  refine Drawn.tk 1 (some 13) rfl rfl (by assumption) ?_
  try simp only [Act.put,Drawn.La,Drawn.Lb,Drawn.Lc]
  refine Drawn.tk 2 (some 14) rfl rfl (by assumption) ?_
  try simp only [Act.put,Drawn.La,Drawn.Lb,Drawn.Lc]
  refine Drawn.tk 3 (some 15) rfl rfl (by assumption) ?_
  try simp only [Act.put,Drawn.La,Drawn.Lb,Drawn.Lc]
  refine Drawn.tk 4 (some 16) rfl rfl (by assumption) ?_
  try simp only [Act.put,Drawn.La,Drawn.Lb,Drawn.Lc]
  refine Drawn.tk 5 (some 17) rfl rfl (by assumption) ?_
  try simp only [Act.put,Drawn.La,Drawn.Lb,Drawn.Lc]
  refine Drawn.tk 6 (some 18) rfl rfl (by assumption) ?_
  try simp only [Act.put,Drawn.La,Drawn.Lb,Drawn.Lc]
  refine Drawn.tk 7 (some 19) rfl rfl (by assumption) ?_
  try simp only [Act.put,Drawn.La,Drawn.Lb,Drawn.Lc]
  refine Drawn.tk 8 (some 20) rfl rfl (by assumption) ?_
  try simp only [Act.put,Drawn.La,Drawn.Lb,Drawn.Lc]
  refine Drawn.tk 9 (some 21) rfl rfl (by assumption) ?_
  try simp only [Act.put,Drawn.La,Drawn.Lb,Drawn.Lc]
  refine Drawn.tk 10 (some 22) rfl rfl (by assumption) ?_
  try simp only [Act.put,Drawn.La,Drawn.Lb,Drawn.Lc]
  refine Drawn.tk 11 (some 23) rfl rfl (by assumption) ?_
  try simp only [Act.put,Drawn.La,Drawn.Lb,Drawn.Lc]
  refine Drawn.tk 12 (some 24) rfl rfl (by assumption) ?_
  try simp only [Act.put,Drawn.La,Drawn.Lb,Drawn.Lc]
  refine Drawn.tk 13 (some 25) rfl rfl (by assumption) ?_
  try simp only [Act.put,Drawn.La,Drawn.Lb,Drawn.Lc]
  refine wpAnyH_ready (rs:=[14]) (by kernel_rfl) (by simp) ?_
  refine AllReadyH.cons rfl (fun K hK=>?_) AllReadyH.nil
  go_simp
  go_at_call 172
  refine (of E L h d ⟨v.kind,v.n⟩ t _ (HH.out.below (by exact Rd.byB)) hm HV.out).mono ?_
  rw [hp.out]
  rintro e w1 ⟨rfl,hb1⟩
  have kk : ∀ (b o : Nat) (u : Value),World.cell? _ ⟨b,o,none⟩ = some u → w1.cell? ⟨b,o,none⟩ = some u:=fun b o u hc=>kept hb1 (cell_lt hc) hc
  have y0:=kk E.hb 0 (.slice (some ⟨cb,co,none⟩) E.f.classes.length ccap) (by go_simp)
  have y1:=kk cb (co + c * 2 + 1) (.slice (some ⟨fb,fo,none⟩) x.fields.length fcap) (by go_simp)
  have y2:=kk fb (fo + k * 2) (.int .i64 t.kind) (by go_simp)
  have y3:=kk fb (fo + k * 2 + 1) (.int .i64 t.cls) (by go_simp)
  have y4:=kk (w.heap.size + 1) 0 (.int .i64 v.kind) (by go_simp)
  have y5:=kk (w.heap.size + 1) 1 (.int .i64 v.n) (by go_simp)
  have y6:=kk w.heap.size 0 (.int .i64 r.kind) (by go_simp)
  have y7:=kk w.heap.size 1 (.int .i64 r.n) (by go_simp)
  have HB1:=Lib.hid (show Below w.heap.size w w1 from Below.trans (by exact Rd.byB) (hb1.mono (by simp <;> omega)))
  have hz1 : w.heap.size + 1 + 1 ≤ w1.heap.size:=by have:=hb1.size;simpa using this
  clear kk hb1
  go_wp2_with fail
  refine hK.out _ _ (by (try dsimp only);exact ⟨y0,y1,y2,y3,y4,y5⟩) (fun hHeld=>?_)
  clear hK K
  try simp only [Act.put,Drawn.La,Drawn.Lb,Drawn.Lc]
  refine wpAnyH_ready (rs:=[15]) (by kernel_rfl) (by simp) ?_
  refine AllReadyH.cons rfl (fun K hK=>?_) AllReadyH.nil
  go_simp
  refine (mustF _).mono ?_
  rintro e w2 ⟨rfl,rfl⟩
  refine And.intro rfl ?_
  exact ⟨rfl,Lft.of_below HH.out HB1.out⟩
set_option maxRecDepth 100000 in
set_option maxHeartbeats 4000000 in
theorem putStuck (H : PH E w L h d) (hm : Hier.may E.f.classes = true) (r v : Vl) (c k : Nat) (hv : v.kind = 3 → v.n < h.objs.length) (hc : c < E.f.classes.length) (hk : k < (Hier.at' E.f.classes c).fields.length) (ht : ofT E.f.classes h v (ftype E.f.classes c k) = true) (hr : r.kind = 3 → r.n < h.objs.length) (ho : ofT E.f.classes h r ⟨3, c⟩ = false) :
    Calls Try.prog 222 #[.pointer (some ⟨E.hb,0,none⟩),.agg #[.int .i64 r.kind,.int .i64 r.n],.int .i64 c,.int .i64 k,.agg #[.int .i64 v.kind,.int .i64 v.n]] w fun e w'=>e = pan (stopV 6) ∧ Lft E L d w w' h:=by
  have HH:=Lib.hid H
  have hhb:=H.hbw
  have hp:=Lib.hid ht
  have b0:=H.c0
  obtain ⟨ca,ccap,hvc,c1,c2,hel⟩:=id H.cls
  obtain ⟨cb,co,rfl,hcb,he⟩:=hel c hc
  obtain ⟨x,hx⟩:=at_of hc
  rw [hx.out] at he
  obtain ⟨_,_,fv,e2,hf⟩:=he
  have hfx : Hier.at' E.f.classes c = x:=atOf hc hx.out
  rw [hfx] at hk
  obtain ⟨fa,fcap,rfl,c3,c4,hfe⟩:=hf
  obtain ⟨fb,fo,rfl,hfb,hfe2⟩:=hfe k hk
  obtain ⟨t,htt⟩:=at_of hk
  rw [htt.out] at hfe2
  obtain ⟨t1,t2,_,_⟩:=hfe2
  have hft : Hid (ftype E.f.classes c k = t):=by
    show _ = _
    unfold ftype
    rw [Int.toNat_natCast,Int.toNat_natCast,hfx,List.getD_eq_getElem?_getD,List.getElem?_eq_getElem hk,htt.out];rfl
  rw [hft.out] at hp
  rw [hvc] at b0
  have hci : (c : Int) < E.f.classes.length:=by omega
  have hki : (k : Int) < x.fields.length:=by omega
  have hbs : E.B ≤ w.heap.size:=by have:=H.base;omega
  have lcb : cb < w.heap.size:=by omega
  have lfb : fb < w.heap.size:=by omega
  have HV:=Lib.hid hv
  have HO:=Lib.hid ho
  have HR:=Lib.hid hr
  clear ho hr
  clear H ht hvc hel hfx hfe hv
  go_enter Try.func222,Try.ntmps222
  go_wp2
  refine wp_region_held_drew (S:=fun w'=>w'.cell? ⟨E.hb,0,none⟩ = some (.slice (some ⟨cb,co,none⟩) E.f.classes.length ccap) ∧ w'.cell? ⟨cb,co + c * 2 + 1,none⟩ = some (.slice (some ⟨fb,fo,none⟩) x.fields.length fcap) ∧ w'.cell? ⟨fb,fo + k * 2,none⟩ = some (.int .i64 t.kind) ∧ w'.cell? ⟨fb,fo + k * 2 + 1,none⟩ = some (.int .i64 t.cls) ∧ w'.cell? ⟨w.heap.size + 1,0,none⟩ = some (.int .i64 v.kind) ∧ w'.cell? ⟨w.heap.size + 1,1,none⟩ = some (.int .i64 v.n)) (by kernel_rfl) (by (try dsimp only);refine ⟨?_,?_,?_,?_,?_,?_⟩ <;> go_simp) (fun hHeld=>?_)
  refine Drawn.tk 0 (some 12) rfl rfl (by assumption) ?_
  try simp only [Act.put,Drawn.La,Drawn.Lb,Drawn.Lc]
  refine Drawn.tk 1 (some 13) rfl rfl (by assumption) ?_
  try simp only [Act.put,Drawn.La,Drawn.Lb,Drawn.Lc]
  refine Drawn.tk 2 (some 14) rfl rfl (by assumption) ?_
  try simp only [Act.put,Drawn.La,Drawn.Lb,Drawn.Lc]
  refine Drawn.tk 3 (some 15) rfl rfl (by assumption) ?_
  try simp only [Act.put,Drawn.La,Drawn.Lb,Drawn.Lc]
  refine Drawn.tk 4 (some 16) rfl rfl (by assumption) ?_
  try simp only [Act.put,Drawn.La,Drawn.Lb,Drawn.Lc]
  refine Drawn.tk 5 (some 17) rfl rfl (by assumption) ?_
  try simp only [Act.put,Drawn.La,Drawn.Lb,Drawn.Lc]
  refine Drawn.tk 6 (some 18) rfl rfl (by assumption) ?_
  try simp only [Act.put,Drawn.La,Drawn.Lb,Drawn.Lc]
  refine Drawn.tk 7 (some 19) rfl rfl (by assumption) ?_
  try simp only [Act.put,Drawn.La,Drawn.Lb,Drawn.Lc]
  refine Drawn.tk 8 (some 20) rfl rfl (by assumption) ?_
  try simp only [Act.put,Drawn.La,Drawn.Lb,Drawn.Lc]
  refine Drawn.tk 9 (some 21) rfl rfl (by assumption) ?_
  try simp only [Act.put,Drawn.La,Drawn.Lb,Drawn.Lc]
  refine Drawn.tk 10 (some 22) rfl rfl (by assumption) ?_
  try simp only [Act.put,Drawn.La,Drawn.Lb,Drawn.Lc]
  refine Drawn.tk 11 (some 23) rfl rfl (by assumption) ?_
  try simp only [Act.put,Drawn.La,Drawn.Lb,Drawn.Lc]
  refine Drawn.tk 12 (some 24) rfl rfl (by assumption) ?_
  try simp only [Act.put,Drawn.La,Drawn.Lb,Drawn.Lc]
  refine Drawn.tk 13 (some 25) rfl rfl (by assumption) ?_
  try simp only [Act.put,Drawn.La,Drawn.Lb,Drawn.Lc]
  refine wpAnyH_ready (rs:=[14]) (by kernel_rfl) (by simp) ?_
  refine AllReadyH.cons rfl (fun K hK=>?_) AllReadyH.nil
  go_simp
  go_at_call 172
  refine (of E L h d ⟨v.kind,v.n⟩ t _ (HH.out.below (by exact Rd.byB)) hm HV.out).mono ?_
  rw [hp.out]
  rintro e w1 ⟨rfl,hb1⟩
  have kk : ∀ (b o : Nat) (u : Value),World.cell? _ ⟨b,o,none⟩ = some u → w1.cell? ⟨b,o,none⟩ = some u:=fun b o u hc=>kept hb1 (cell_lt hc) hc
  have y0:=kk E.hb 0 (.slice (some ⟨cb,co,none⟩) E.f.classes.length ccap) (by go_simp)
  have y1:=kk cb (co + c * 2 + 1) (.slice (some ⟨fb,fo,none⟩) x.fields.length fcap) (by go_simp)
  have y2:=kk fb (fo + k * 2) (.int .i64 t.kind) (by go_simp)
  have y3:=kk fb (fo + k * 2 + 1) (.int .i64 t.cls) (by go_simp)
  have y4:=kk (w.heap.size + 1) 0 (.int .i64 v.kind) (by go_simp)
  have y5:=kk (w.heap.size + 1) 1 (.int .i64 v.n) (by go_simp)
  have y6:=kk w.heap.size 0 (.int .i64 r.kind) (by go_simp)
  have y7:=kk w.heap.size 1 (.int .i64 r.n) (by go_simp)
  have HB1:=Lib.hid (show Below w.heap.size w w1 from Below.trans (by exact Rd.byB) (hb1.mono (by simp <;> omega)))
  have hz1 : w.heap.size + 1 + 1 ≤ w1.heap.size:=by have:=hb1.size;simpa using this
  clear kk hb1
  go_wp2_with fail
  refine hK.out _ _ (by (try dsimp only);exact ⟨y0,y1,y2,y3,y4,y5⟩) (fun hHeld=>?_)
  clear hK K
  try simp only [Act.put,Drawn.La,Drawn.Lb,Drawn.Lc]
  refine wpAnyH_ready (rs:=[15]) (by kernel_rfl) (by simp) ?_
  refine AllReadyH.cons rfl (fun K hK=>?_) AllReadyH.nil
  go_simp
  refine (mustT _).mono ?_
  rintro e w2 ⟨rfl,rfl⟩
  go_wp2_with fail
  refine hK.out _ _ (by (try dsimp only);exact ⟨y0,y1,y2,y3,y4,y5⟩) (fun hHeld=>?_)
  clear hK K
  try simp only [Act.put,Drawn.La,Drawn.Lb,Drawn.Lc]
  refine wpAnyH_done (by kernel_rfl) ?_ _
  go_wp2_with (go_at_call 245;refine (fieldStuck (HH.out.below HB1.out) hm ⟨r.kind,r.n⟩ c k HR.out HO.out).mono ?_;rintro e w3 ⟨rfl,A⟩;have A2:=Lib.hid (Lft.before (w:=w) HB1.out A);clear A;unfold pan)
  refine And.intro rfl ?_
  exact ⟨rfl,A2.out⟩
set_option maxRecDepth 100000 in
set_option maxHeartbeats 4000000 in
theorem putNull (H : PH E w L h d) (hm : Hier.may E.f.classes = true) (r v : Vl) (c k : Nat) (hv : v.kind = 3 → v.n < h.objs.length) (hc : c < E.f.classes.length) (hk : k < (Hier.at' E.f.classes c).fields.length) (ht : ofT E.f.classes h v (ftype E.f.classes c k) = true) (hr : r.kind = 3 → r.n < h.objs.length) (ho : ofT E.f.classes h r ⟨3, c⟩ = true) (hn : r.n < 0) :
    Calls Try.prog 222 #[.pointer (some ⟨E.hb,0,none⟩),.agg #[.int .i64 r.kind,.int .i64 r.n],.int .i64 c,.int .i64 k,.agg #[.int .i64 v.kind,.int .i64 v.n]] w fun e w'=>e = pan (raiseV h) ∧ Lft E L d w w' (raiseH E.f.classes 1 h):=by
  have HH:=Lib.hid H
  have hhb:=H.hbw
  have hp:=Lib.hid ht
  have b0:=H.c0
  obtain ⟨ca,ccap,hvc,c1,c2,hel⟩:=id H.cls
  obtain ⟨cb,co,rfl,hcb,he⟩:=hel c hc
  obtain ⟨x,hx⟩:=at_of hc
  rw [hx.out] at he
  obtain ⟨_,_,fv,e2,hf⟩:=he
  have hfx : Hier.at' E.f.classes c = x:=atOf hc hx.out
  rw [hfx] at hk
  obtain ⟨fa,fcap,rfl,c3,c4,hfe⟩:=hf
  obtain ⟨fb,fo,rfl,hfb,hfe2⟩:=hfe k hk
  obtain ⟨t,htt⟩:=at_of hk
  rw [htt.out] at hfe2
  obtain ⟨t1,t2,_,_⟩:=hfe2
  have hft : Hid (ftype E.f.classes c k = t):=by
    show _ = _
    unfold ftype
    rw [Int.toNat_natCast,Int.toNat_natCast,hfx,List.getD_eq_getElem?_getD,List.getElem?_eq_getElem hk,htt.out];rfl
  rw [hft.out] at hp
  rw [hvc] at b0
  have hci : (c : Int) < E.f.classes.length:=by omega
  have hki : (k : Int) < x.fields.length:=by omega
  have hbs : E.B ≤ w.heap.size:=by have:=H.base;omega
  have lcb : cb < w.heap.size:=by omega
  have lfb : fb < w.heap.size:=by omega
  have HV:=Lib.hid hv
  have HO:=Lib.hid ho
  have HR:=Lib.hid hr
  clear ho hr
  clear H ht hvc hel hfx hfe hv
  go_enter Try.func222,Try.ntmps222
  go_wp2
  refine wp_region_held_drew (S:=fun w'=>w'.cell? ⟨E.hb,0,none⟩ = some (.slice (some ⟨cb,co,none⟩) E.f.classes.length ccap) ∧ w'.cell? ⟨cb,co + c * 2 + 1,none⟩ = some (.slice (some ⟨fb,fo,none⟩) x.fields.length fcap) ∧ w'.cell? ⟨fb,fo + k * 2,none⟩ = some (.int .i64 t.kind) ∧ w'.cell? ⟨fb,fo + k * 2 + 1,none⟩ = some (.int .i64 t.cls) ∧ w'.cell? ⟨w.heap.size + 1,0,none⟩ = some (.int .i64 v.kind) ∧ w'.cell? ⟨w.heap.size + 1,1,none⟩ = some (.int .i64 v.n)) (by kernel_rfl) (by (try dsimp only);refine ⟨?_,?_,?_,?_,?_,?_⟩ <;> go_simp) (fun hHeld=>?_)
  refine Drawn.tk 0 (some 12) rfl rfl (by assumption) ?_
  try simp only [Act.put,Drawn.La,Drawn.Lb,Drawn.Lc]
  refine Drawn.tk 1 (some 13) rfl rfl (by assumption) ?_
  try simp only [Act.put,Drawn.La,Drawn.Lb,Drawn.Lc]
  refine Drawn.tk 2 (some 14) rfl rfl (by assumption) ?_
  try simp only [Act.put,Drawn.La,Drawn.Lb,Drawn.Lc]
  refine Drawn.tk 3 (some 15) rfl rfl (by assumption) ?_
  try simp only [Act.put,Drawn.La,Drawn.Lb,Drawn.Lc]
  refine Drawn.tk 4 (some 16) rfl rfl (by assumption) ?_
  try simp only [Act.put,Drawn.La,Drawn.Lb,Drawn.Lc]
  refine Drawn.tk 5 (some 17) rfl rfl (by assumption) ?_
  try simp only [Act.put,Drawn.La,Drawn.Lb,Drawn.Lc]
  refine Drawn.tk 6 (some 18) rfl rfl (by assumption) ?_
  try simp only [Act.put,Drawn.La,Drawn.Lb,Drawn.Lc]
  refine Drawn.tk 7 (some 19) rfl rfl (by assumption) ?_
  try simp only [Act.put,Drawn.La,Drawn.Lb,Drawn.Lc]
  refine Drawn.tk 8 (some 20) rfl rfl (by assumption) ?_
  try simp only [Act.put,Drawn.La,Drawn.Lb,Drawn.Lc]
  refine Drawn.tk 9 (some 21) rfl rfl (by assumption) ?_
  try simp only [Act.put,Drawn.La,Drawn.Lb,Drawn.Lc]
  refine Drawn.tk 10 (some 22) rfl rfl (by assumption) ?_
  try simp only [Act.put,Drawn.La,Drawn.Lb,Drawn.Lc]
  refine Drawn.tk 11 (some 23) rfl rfl (by assumption) ?_
  try simp only [Act.put,Drawn.La,Drawn.Lb,Drawn.Lc]
  refine Drawn.tk 12 (some 24) rfl rfl (by assumption) ?_
  try simp only [Act.put,Drawn.La,Drawn.Lb,Drawn.Lc]
  refine Drawn.tk 13 (some 25) rfl rfl (by assumption) ?_
  try simp only [Act.put,Drawn.La,Drawn.Lb,Drawn.Lc]
  refine wpAnyH_ready (rs:=[14]) (by kernel_rfl) (by simp) ?_
  refine AllReadyH.cons rfl (fun K hK=>?_) AllReadyH.nil
  go_simp
  go_at_call 172
  refine (of E L h d ⟨v.kind,v.n⟩ t _ (HH.out.below (by exact Rd.byB)) hm HV.out).mono ?_
  rw [hp.out]
  rintro e w1 ⟨rfl,hb1⟩
  have kk : ∀ (b o : Nat) (u : Value),World.cell? _ ⟨b,o,none⟩ = some u → w1.cell? ⟨b,o,none⟩ = some u:=fun b o u hc=>kept hb1 (cell_lt hc) hc
  have y0:=kk E.hb 0 (.slice (some ⟨cb,co,none⟩) E.f.classes.length ccap) (by go_simp)
  have y1:=kk cb (co + c * 2 + 1) (.slice (some ⟨fb,fo,none⟩) x.fields.length fcap) (by go_simp)
  have y2:=kk fb (fo + k * 2) (.int .i64 t.kind) (by go_simp)
  have y3:=kk fb (fo + k * 2 + 1) (.int .i64 t.cls) (by go_simp)
  have y4:=kk (w.heap.size + 1) 0 (.int .i64 v.kind) (by go_simp)
  have y5:=kk (w.heap.size + 1) 1 (.int .i64 v.n) (by go_simp)
  have y6:=kk w.heap.size 0 (.int .i64 r.kind) (by go_simp)
  have y7:=kk w.heap.size 1 (.int .i64 r.n) (by go_simp)
  have HB1:=Lib.hid (show Below w.heap.size w w1 from Below.trans (by exact Rd.byB) (hb1.mono (by simp <;> omega)))
  have hz1 : w.heap.size + 1 + 1 ≤ w1.heap.size:=by have:=hb1.size;simpa using this
  clear kk hb1
  go_wp2_with fail
  refine hK.out _ _ (by (try dsimp only);exact ⟨y0,y1,y2,y3,y4,y5⟩) (fun hHeld=>?_)
  clear hK K
  try simp only [Act.put,Drawn.La,Drawn.Lb,Drawn.Lc]
  refine wpAnyH_ready (rs:=[15]) (by kernel_rfl) (by simp) ?_
  refine AllReadyH.cons rfl (fun K hK=>?_) AllReadyH.nil
  go_simp
  refine (mustT _).mono ?_
  rintro e w2 ⟨rfl,rfl⟩
  go_wp2_with fail
  refine hK.out _ _ (by (try dsimp only);exact ⟨y0,y1,y2,y3,y4,y5⟩) (fun hHeld=>?_)
  clear hK K
  try simp only [Act.put,Drawn.La,Drawn.Lb,Drawn.Lc]
  refine wpAnyH_done (by kernel_rfl) ?_ _
  go_wp2_with (go_at_call 245;refine (fieldNull (HH.out.below HB1.out) hm ⟨r.kind,r.n⟩ c k HR.out HO.out hn).mono ?_;rintro e w3 ⟨rfl,A⟩;have A2:=Lib.hid (Lft.before (w:=w) HB1.out A);clear A;unfold pan)
  refine And.intro rfl ?_
  exact ⟨rfl,A2.out⟩
set_option maxRecDepth 100000 in
set_option maxHeartbeats 4000000 in
theorem putOk (H : PH E w L h d) (hm : Hier.may E.f.classes = true) (r v : Vl) (c k : Nat) (hv : v.kind = 3 → v.n < h.objs.length) (hc : c < E.f.classes.length) (hk : k < (Hier.at' E.f.classes c).fields.length) (ht : ofT E.f.classes h v (ftype E.f.classes c k) = true) (hr3 : r.kind = 3) (hr0 : 0 ≤ r.n) (hr1 : r.n < h.objs.length) (ho : ofT E.f.classes h r ⟨3, c⟩ = true) (hkey : ((c : Int), (k : Int)) ∈ (obj h r.n).held.map (·.1)) :
    Calls Try.prog 222 #[.pointer (some ⟨E.hb,0,none⟩),.agg #[.int .i64 r.kind,.int .i64 r.n],.int .i64 c,.int .i64 k,.agg #[.int .i64 v.kind,.int .i64 v.n]] w fun e w'=>e = .returned (.tuple #[]) ∧ Lft E L d w w' (putH h r.n (c,k) v):=by
  have HH:=Lib.hid H
  have hhb:=H.hbw
  have hp:=Lib.hid ht
  have b0:=H.c0
  obtain ⟨ca,ccap,hvc,c1,c2,hel⟩:=id H.cls
  obtain ⟨cb,co,rfl,hcb,he⟩:=hel c hc
  obtain ⟨x,hx⟩:=at_of hc
  rw [hx.out] at he
  obtain ⟨_,_,fv,e2,hf⟩:=he
  have hfx : Hier.at' E.f.classes c = x:=atOf hc hx.out
  rw [hfx] at hk
  obtain ⟨fa,fcap,rfl,c3,c4,hfe⟩:=hf
  obtain ⟨fb,fo,rfl,hfb,hfe2⟩:=hfe k hk
  obtain ⟨t,htt⟩:=at_of hk
  rw [htt.out] at hfe2
  obtain ⟨t1,t2,_,_⟩:=hfe2
  have hft : Hid (ftype E.f.classes c k = t):=by
    show _ = _
    unfold ftype
    rw [Int.toNat_natCast,Int.toNat_natCast,hfx,List.getD_eq_getElem?_getD,List.getElem?_eq_getElem hk,htt.out];rfl
  rw [hft.out] at hp
  rw [hvc] at b0
  have hci : (c : Int) < E.f.classes.length:=by omega
  have hki : (k : Int) < x.fields.length:=by omega
  have hbs : E.B ≤ w.heap.size:=by have:=H.base;omega
  have lcb : cb < w.heap.size:=by omega
  have lfb : fb < w.heap.size:=by omega
  have HV:=Lib.hid hv
  obtain ⟨kr,n⟩:=r
  simp only at hr3 hr0 hr1 hkey
  subst hr3
  obtain ⟨g,cap,hvb,d1,d2,hg,hgne,o0,o1⟩:=H.ob hr0 hr1
  obtain ⟨mr,es,cc,pm,hrr,hrw,hrne,m1,m2,m3,_⟩:=H.mp hr0 hr1
  rw [hrr] at o1
  obtain ⟨es',c',pm',u1,u2,u3⟩:=upd_run mr cc m2 ((c : Int),(k : Int)) v
  have hMI:=Lib.hid (mapIs_become u2 u3 m3 hkey)
  have U1 : Hid (∀ w2 : World,w2.heap[mr]? = some (.map es cc) → (Instr.mapUpdate 199 (.map (some mr)) (.agg #[.int .i64 c,.int .i64 k]) (.agg #[.int .i64 v.kind,.int .i64 v.n])).run Try.prog w2 = .ok () (w2.putObj mr (.map es' c'))):=u1
  have HO:=Lib.hid ho
  have HVB:=Lib.hid hvb
  have HRR:=Lib.hid hrr
  clear ho hvb u1 u2 u3 m2 m3 hkey hrr
  clear H ht hvc hel hfx hfe hv
  go_enter Try.func222,Try.ntmps222
  go_wp2
  refine wp_region_held_drew (S:=fun w'=>w'.cell? ⟨E.hb,0,none⟩ = some (.slice (some ⟨cb,co,none⟩) E.f.classes.length ccap) ∧ w'.cell? ⟨cb,co + c * 2 + 1,none⟩ = some (.slice (some ⟨fb,fo,none⟩) x.fields.length fcap) ∧ w'.cell? ⟨fb,fo + k * 2,none⟩ = some (.int .i64 t.kind) ∧ w'.cell? ⟨fb,fo + k * 2 + 1,none⟩ = some (.int .i64 t.cls) ∧ w'.cell? ⟨w.heap.size + 1,0,none⟩ = some (.int .i64 v.kind) ∧ w'.cell? ⟨w.heap.size + 1,1,none⟩ = some (.int .i64 v.n)) (by kernel_rfl) (by (try dsimp only);refine ⟨?_,?_,?_,?_,?_,?_⟩ <;> go_simp) (fun hHeld=>?_)
  refine Drawn.tk 0 (some 12) rfl rfl (by assumption) ?_
  try simp only [Act.put,Drawn.La,Drawn.Lb,Drawn.Lc]
  refine Drawn.tk 1 (some 13) rfl rfl (by assumption) ?_
  try simp only [Act.put,Drawn.La,Drawn.Lb,Drawn.Lc]
  refine Drawn.tk 2 (some 14) rfl rfl (by assumption) ?_
  try simp only [Act.put,Drawn.La,Drawn.Lb,Drawn.Lc]
  refine Drawn.tk 3 (some 15) rfl rfl (by assumption) ?_
  try simp only [Act.put,Drawn.La,Drawn.Lb,Drawn.Lc]
  refine Drawn.tk 4 (some 16) rfl rfl (by assumption) ?_
  try simp only [Act.put,Drawn.La,Drawn.Lb,Drawn.Lc]
  refine Drawn.tk 5 (some 17) rfl rfl (by assumption) ?_
  try simp only [Act.put,Drawn.La,Drawn.Lb,Drawn.Lc]
  refine Drawn.tk 6 (some 18) rfl rfl (by assumption) ?_
  try simp only [Act.put,Drawn.La,Drawn.Lb,Drawn.Lc]
  refine Drawn.tk 7 (some 19) rfl rfl (by assumption) ?_
  try simp only [Act.put,Drawn.La,Drawn.Lb,Drawn.Lc]
  refine Drawn.tk 8 (some 20) rfl rfl (by assumption) ?_
  try simp only [Act.put,Drawn.La,Drawn.Lb,Drawn.Lc]
  refine Drawn.tk 9 (some 21) rfl rfl (by assumption) ?_
  try simp only [Act.put,Drawn.La,Drawn.Lb,Drawn.Lc]
  refine Drawn.tk 10 (some 22) rfl rfl (by assumption) ?_
  try simp only [Act.put,Drawn.La,Drawn.Lb,Drawn.Lc]
  refine Drawn.tk 11 (some 23) rfl rfl (by assumption) ?_
  try simp only [Act.put,Drawn.La,Drawn.Lb,Drawn.Lc]
  refine Drawn.tk 12 (some 24) rfl rfl (by assumption) ?_
  try simp only [Act.put,Drawn.La,Drawn.Lb,Drawn.Lc]
  refine Drawn.tk 13 (some 25) rfl rfl (by assumption) ?_
  try simp only [Act.put,Drawn.La,Drawn.Lb,Drawn.Lc]
  refine wpAnyH_ready (rs:=[14]) (by kernel_rfl) (by simp) ?_
  refine AllReadyH.cons rfl (fun K hK=>?_) AllReadyH.nil
  go_simp
  go_at_call 172
  refine (of E L h d ⟨v.kind,v.n⟩ t _ (HH.out.below (by exact Rd.byB)) hm HV.out).mono ?_
  rw [hp.out]
  rintro e w1 ⟨rfl,hb1⟩
  have kk : ∀ (b o : Nat) (u : Value),World.cell? _ ⟨b,o,none⟩ = some u → w1.cell? ⟨b,o,none⟩ = some u:=fun b o u hc=>kept hb1 (cell_lt hc) hc
  have y0:=kk E.hb 0 (.slice (some ⟨cb,co,none⟩) E.f.classes.length ccap) (by go_simp)
  have y1:=kk cb (co + c * 2 + 1) (.slice (some ⟨fb,fo,none⟩) x.fields.length fcap) (by go_simp)
  have y2:=kk fb (fo + k * 2) (.int .i64 t.kind) (by go_simp)
  have y3:=kk fb (fo + k * 2 + 1) (.int .i64 t.cls) (by go_simp)
  have y4:=kk (w.heap.size + 1) 0 (.int .i64 v.kind) (by go_simp)
  have y5:=kk (w.heap.size + 1) 1 (.int .i64 v.n) (by go_simp)
  have y6:=kk w.heap.size 0 (.int .i64 3) (by go_simp)
  have y7:=kk w.heap.size 1 (.int .i64 n) (by go_simp)
  have HB1:=Lib.hid (show Below w.heap.size w w1 from Below.trans (by exact Rd.byB) (hb1.mono (by simp <;> omega)))
  have hz1 : w.heap.size + 1 + 1 ≤ w1.heap.size:=by have:=hb1.size;simpa using this
  clear kk hb1
  go_wp2_with fail
  refine hK.out _ _ (by (try dsimp only);exact ⟨y0,y1,y2,y3,y4,y5⟩) (fun hHeld=>?_)
  clear hK K
  try simp only [Act.put,Drawn.La,Drawn.Lb,Drawn.Lc]
  refine wpAnyH_ready (rs:=[15]) (by kernel_rfl) (by simp) ?_
  refine AllReadyH.cons rfl (fun K hK=>?_) AllReadyH.nil
  go_simp
  refine (mustT _).mono ?_
  rintro e w2 ⟨rfl,rfl⟩
  go_wp2_with fail
  refine hK.out _ _ (by (try dsimp only);exact ⟨y0,y1,y2,y3,y4,y5⟩) (fun hHeld=>?_)
  clear hK K
  try simp only [Act.put,Drawn.La,Drawn.Lb,Drawn.Lc]
  refine wpAnyH_done (by kernel_rfl) ?_ _
  have hb:=HB1.out
  have y8 : w1.cell? ⟨g,n.toNat * 2 + 1,none⟩ = some (.map (some mr)):=kept hb hg o1
  go_wp2_with (go_at_call 245;refine (fieldOk (HH.out.below HB1.out) hm n c k hr1 HO.out hr0 HVB.out d1).mono ?_;rintro e w3 ⟨rfl,hb3⟩;have z8:=kept hb3 (cell_lt y8) y8;have z4:=kept hb3 (cell_lt y4) y4;have z5:=kept hb3 (cell_lt y5) y5;have HB3:=Lib.hid (hb.trans (hb3.mono hb.size));have hz3 : w.heap.size + 1 + 1 ≤ w3.heap.size:=Nat.le_trans hz1 hb3.size;clear hb3)
  have m1' : w3.heap[mr]? = some (.map es cc):=(HB3.out.block mr hrw).trans m1
  have yu:=U1.out (w3.alloc (.cells #[.int .i64 c,.int .i64 k] 312)).drew ((Below.heap_alloc _ _ _ (by omega)).trans m1')
  have hsz2 : w.heap.size + 1 < w3.heap.size:=by omega
  have hsz3 : g < w3.heap.size:=cell_lt z8
  have hsz4 : w.heap.size + 1 < w3.heap.size + 1:=by omega
  have hsz5 : g < w3.heap.size + 1:=by omega
  have hb3:=HB3.out
  clear y0 y1 y2 y3 y4 y5 y6 y7 y8 hb o0 o1 b0 e2 t1 t2
  go_region
  all_goals
    go_end0
    exact ⟨rfl,PH.setMap (W:=(w3.alloc (.cells #[.int .i64 c,.int .i64 k] 312)).drew) (o:=⟨(obj h n).cls,become (obj h n).held ((c : Int),(k : Int)) v⟩) HH.out (by exact Rd.byB) hr0 hr1 rfl HRR.out hMI.out⟩
theorem putP (H : PH E w L h d) (hm : Hier.may E.f.classes = true) (HO : HpOk E.f.classes E.input E.fuel h) (r v : Vl) (c k : Int) (hr : VlOk h.objs.length r) (hv : VlOk h.objs.length v) (hc : 0 ≤ c ∧ c < E.f.classes.length) (hk : 0 ≤ k ∧ k < ((Hier.at' E.f.classes c.toNat).fields.length : Int)) :
    Calls Try.prog 222 #[.pointer (some ⟨E.hb,0,none⟩),.agg #[.int .i64 r.kind,.int .i64 r.n],.int .i64 c,.int .i64 k,.agg #[.int .i64 v.kind,.int .i64 v.n]] w (PanR E L d w (fun _=>.tuple #[]) (Run.put E.f.classes r c k v (ftype E.f.classes c k) h)):=by
  obtain ⟨c,rfl⟩:=Int.eq_ofNat_of_zero_le hc.1
  obtain ⟨k,rfl⟩:=Int.eq_ofNat_of_zero_le hk.1
  have hc1 : c < E.f.classes.length:=by omega
  have hk1 : k < (Hier.at' E.f.classes c).fields.length:=by have:=hk.2;rw [Int.toNat_natCast] at this;omega
  have hv3 : v.kind = 3 → v.n < h.objs.length:=fun e=>(hv.2.2.2 e).2
  have hr3 : r.kind = 3 → r.n < h.objs.length:=fun e=>(hr.2.2.2 e).2
  by_cases ht : ofT E.f.classes h v (ftype E.f.classes c k) = true
  · by_cases ho : ofT E.f.classes h r ⟨3,c⟩ = true
    · obtain ⟨h3,h4⟩:=of_ref ho
      by_cases hn : r.n < 0
      · rw [put_raise ht ho hn]
        refine (putNull H hm r v c k hv3 hc1 hk1 ht hr3 ho hn).mono ?_
        rintro e w' ⟨rfl,A⟩
        exact panR_raise A
      · rw [put_okU ht ho hn]
        have hvn:=hr.2.2.2 h3
        have hO:=HO.obs _ (obj_mem (h:=h) (n:=r.n) (by omega) (by omega))
        have hi : Hier.is E.f.classes (obj h r.n).cls c = true := by rcases h4 with h4 | h4; · omega
                                                                     · exact h4
        have hmem:=fresh_has hc hi hk
        rw [← hO.keys] at hmem
        refine (putOk H hm r v c k hv3 hc1 hk1 ht h3 (by omega) hvn.2 ho hmem).mono ?_
        rintro e w' ⟨rfl,A⟩
        exact ⟨rfl,A⟩
    · have ho2 : ofT E.f.classes h r ⟨3,c⟩ = false:=by simpa using ho
      rw [put_stuck ht ho2]
      refine (putStuck H hm r v c k hv3 hc1 hk1 ht hr3 ho2).mono ?_
      rintro e w' ⟨rfl,A⟩
      exact ⟨rfl,A⟩
  · have ht2 : ofT E.f.classes h v (ftype E.f.classes c k) = false:=by simpa using ht
    rw [put_type ht2]
    refine (putType H hm r v c k hv3 hc1 hk1 ht2).mono ?_
    rintro e w' ⟨rfl,A⟩
    exact ⟨rfl,A⟩
end
end Hpw
end Go.Proofs.Ytncmhenfgbcihab
namespace Go.Proofs.Ytncmhenfgbcihab
open Go.RowKit
set_option linter.unusedSimpArgs false
set_option linter.unusedVariables false
namespace NumW
open Num
theorem ret_int {k : IntKind} {a b : Int} (h : a = b) : Ending.returned (.int k a) = .returned (.int k b):=by rw [h]
theorem ret_bool {a b : Bool} (h : a = b) : Ending.returned (.bool a) = .returned (.bool b):=by rw [h]
theorem ret_int_bool {k : IntKind} {a b : Int} {c d : Bool} (h : (a,c) = (b,d)) : Ending.returned (.tuple #[.int k a,.bool c]) = .returned (.tuple #[.int k b,.bool d]):=by
  cases h;rfl
theorem narrow (a : Int) (w : World) : Calls Try.prog 218 #[.int .i64 a] w fun e w'=>e = .returned (.int .i64 (wrap32 a)) ∧ w = w':=by
  go_enter Try.func218,Try.ntmps218
  go_wp2
  go_ret
  exact ⟨ret_int (wrap64_id (wrap32_ok a)),rfl⟩
theorem wrap64_zero : wrap64 0 = 0:=by simp [wrap64]
theorem long_pair (p : Int × Bool) (x : Int) (o : Bool) (h : p = (x,o)) : Ending.returned (.tuple #[.int .i64 p.1,.bool p.2]) = .returned (.tuple #[.int .i64 x,.bool o]):=by
  subst h;rfl
set_option maxHeartbeats 1000000 in
theorem long (op a b : Int) (w : World) (ha : Ok a) : Calls Try.prog 217 #[.int .i64 op,.int .i64 a,.int .i64 b] w fun e w'=>e = .returned (.tuple #[.int .i64 (Num.long op a b).1,.bool (Num.long op a b).2]) ∧ w = w':=by
  by_cases h0 : b = 0
  · subst h0
    go_enter Try.func217,Try.ntmps217
    go_wp2
    all_goals go_ret2
    all_goals refine ⟨(long_pair _ _ _ ?_).symm,rfl⟩
    all_goals simp_all [Num.long,wrap64_zero]
  by_cases h1 : b = -1
  · subst h1
    go_enter Try.func217,Try.ntmps217
    go_wp2
    all_goals go_ret2
    all_goals refine ⟨(long_pair _ _ _ ?_).symm,rfl⟩
    all_goals simp_all [Num.long,wrap64_zero]
  have q0 : (b == 0) = false:=by simpa using h0
  have q1 : (b == -1) = false:=by simpa using h1
  have t1:=wrap64_id (tdiv_ok ha h1)
  have t2:=wrap64_id (tmod_ok (b:=b) ha)
  go_enter Try.func217,Try.ntmps217
  go_wp2
  all_goals go_ret2
  all_goals refine ⟨(long_pair _ _ _ ?_).symm,rfl⟩
  all_goals simp_all [Num.long]
theorem int_pair (op a b : Int) (p : Int × Bool) (h : Num.long op (wrap32 a) (wrap32 b) = p) : Num.int op a b = (wrap32 p.1,p.2):=by subst h;rfl
set_option maxHeartbeats 1000000 in
theorem int (op a b : Int) (w : World) : Calls Try.prog 216 #[.int .i64 op,.int .i64 a,.int .i64 b] w fun e w'=>e = .returned (.tuple #[.int .i64 (Num.int op a b).1,.bool (Num.int op a b).2]) ∧ w = w':=by
  have ha:=wrap32_ok a
  go_enter Try.func216,Try.ntmps216
  go_wp2_with (first | (go_at_call 218;refine (narrow _ _).mono ?_;rintro e w' ⟨rfl,rfl⟩) | (go_at_call 217;refine (long _ _ _ _ ha).mono ?_;rintro e w' ⟨rfl,rfl⟩))
  go_ret2
  exact ⟨rfl,rfl⟩
set_option maxHeartbeats 1000000 in
theorem cmp (a b : Int) (w : World) : Calls Try.prog 219 #[.int .i64 a,.int .i64 b] w fun e w'=>e = .returned (.int .i64 (Num.cmp a b)) ∧ w = w':=by
  by_cases h1 : a < b
  · go_enter Try.func219,Try.ntmps219
    go_wp2
    all_goals go_ret
    all_goals exact ⟨ret_int (by simp [Num.cmp,h1]),rfl⟩
  by_cases h2 : b < a
  · go_enter Try.func219,Try.ntmps219
    go_wp2
    all_goals go_ret
    all_goals exact ⟨ret_int (by simp [Num.cmp,h1,h2]),rfl⟩
  · have e : Num.cmp a b = 0:=by simp [Num.cmp,h1,h2]
    rw [e]
    go_enter Try.func219,Try.ntmps219
    go_wp2
    all_goals go_ret
    all_goals exact ⟨rfl,rfl⟩
theorem holds1 (is : Bool) (c cond : Int) (p : Addr) (w : World) (h : w.cell? p = some (.int .i64 cond)) : Calls Try.prog 211 #[.bool is,.int .i64 c,.pointer (some p)] w fun e w'=>e = .returned (.bool (is && (cond == c))) ∧ w = w':=by
  cases is
  all_goals
    go_enter Try.func211,Try.ntmps211
    go_wp2
    all_goals go_ret
    all_goals exact ⟨ret_bool (by simp),rfl⟩
theorem holds_neg (c a : Int) (h : a < 0) : Num.holds c a = ((false && c == 1) || ((true && c == 2) || ((true && c == 3) || (false && c == 4)))):=by
  unfold Num.holds
  by_cases h1 : c = 1
  · subst h1;simp;omega
  by_cases h2 : c = 2
  · subst h2;simp [h]
  by_cases h3 : c = 3
  · subst h3;simp;omega
  by_cases h4 : c = 4
  · subst h4;simp;omega
  simp [h1,h2,h3,h4]
theorem holds_pos (c a : Int) (h : 0 < a) : Num.holds c a = ((false && c == 1) || ((false && c == 2) || ((true && c == 3) || (true && c == 4)))):=by
  unfold Num.holds
  by_cases h1 : c = 1
  · subst h1;simp;omega
  by_cases h2 : c = 2
  · subst h2;simp;omega
  by_cases h3 : c = 3
  · subst h3;simp;omega
  by_cases h4 : c = 4
  · subst h4;simp;omega
  simp [h1,h2,h3,h4]
set_option maxHeartbeats 1000000 in
theorem holds (c a : Int) (w : World) : Calls Try.prog 180 #[.int .i64 c,.int .i64 a] w fun e w'=>e = .returned (.bool (Num.holds c a)) ∧ Below w.heap.size w w':=by
  have hmf : ∀ (fn : Fn) (first cap : Array Value) (w : World),(Instr.makeFunc fn first cap).run Try.prog w = .ok (.func fn first cap) w:=fun _ _ _ _=>rfl
  rcases Int.lt_trichotomy a 0 with h | h | h
  · have n1 : ¬ 0 < a:=by omega
    have q0 : (a == 0) = false:=by simp;omega
    have q1 : (a != 0) = true:=by simp;omega
    go_enter Try.func180,Try.ntmps180
    go_wp2_with (go_at_call 211;refine (holds1 _ _ c _ _ (by simp)).mono ?_;rintro e w' ⟨rfl,rfl⟩)
    all_goals go_ret
    all_goals go_tidy
    all_goals refine ⟨ret_bool ?_,(Below.refl _ _).alloc (Nat.le_refl _) _⟩
    all_goals rw [holds_neg c a h]
    all_goals simp_all
    all_goals (intros;omega)
  · subst h
    go_enter Try.func180,Try.ntmps180
    go_wp2_with (go_at_call 211;refine (holds1 _ _ c _ _ (by simp)).mono ?_;rintro e w' ⟨rfl,rfl⟩)
    all_goals go_ret
    all_goals go_tidy
    all_goals refine ⟨ret_bool ?_,(Below.refl _ _).alloc (Nat.le_refl _) _⟩
    all_goals simp_all [Num.holds]
  · have n1 : ¬ a < 0:=by omega
    have q0 : (a == 0) = false:=by simp;omega
    have q1 : (a != 0) = true:=by simp;omega
    go_enter Try.func180,Try.ntmps180
    go_wp2_with (go_at_call 211;refine (holds1 _ _ c _ _ (by simp)).mono ?_;rintro e w' ⟨rfl,rfl⟩)
    all_goals go_ret
    all_goals go_tidy
    all_goals refine ⟨ret_bool ?_,(Below.refl _ _).alloc (Nat.le_refl _) _⟩
    all_goals rw [holds_pos c a h]
    all_goals simp_all
    all_goals simp [show ¬ a < 0 by omega]
end NumW
end Go.Proofs.Ytncmhenfgbcihab
namespace Go.Proofs.Ytncmhenfgbcihab
open Go.RowKit
set_option linter.unusedSimpArgs false
set_option linter.unusedVariables false
namespace Hpw
open Num Rd D Run Mem HierW
section
variable {E : Ev} {w w' wr W w2 : World} {L L' : Lay} {h h' : Hp} {d : Nat}
def unitV (_ : Unit) : Value:=.tuple #[]
set_option maxRecDepth 100000 in
set_option maxHeartbeats 2000000 in
theorem castP (H : PH E w L h d) (hm : Hier.may E.f.classes = true) (v : Vl) (c : Int) (hv : v.kind = 3 → v.n < h.objs.length) :
    Calls Try.prog 223 #[.pointer (some ⟨E.hb,0,none⟩),.agg #[.int .i64 v.kind,.int .i64 v.n],.int .i64 c] w (PanR E L d w unitV (Run.cast E.f.classes v c h)):=by
  have HH:=Lib.hid H
  obtain ⟨kd,n⟩:=v
  by_cases q : kd = 3
  · subst q
    have hv1 : n < h.objs.length:=hv rfl
    by_cases ho : ofT E.f.classes h ⟨3,n⟩ ⟨3,c⟩ = true
    · have hr : Hid (Run.cast E.f.classes ⟨3,n⟩ c h = .ok () h):=by show _ = _;unfold Run.cast;rw [if_neg (by simp),if_neg (by rw [ho];simp)]
      rw [hr.out]
      have HO:=Lib.hid ho
      clear H ho hv
      go_enter Try.func223,Try.ntmps223
      go_wp2_with (first | (go_at_call 172;refine (of E L h d ⟨3,n⟩ ⟨3,c⟩ _ (HH.out.below (by exact Rd.byB)) hm (fun _=>hv1)).mono ?_;rw [HO.out];rintro e w1 ⟨rfl,hb1⟩;have HB1:=Lib.hid (show Below w.heap.size w w1 from Below.trans (by exact Rd.byB) (hb1.mono (by simp <;> omega)));clear hb1) | (go_at_call 171;refine (mustT _).mono ?_;rintro e w2 ⟨rfl,rfl⟩))
      go_end0
      exact ⟨rfl,Lft.of_below HH.out HB1.out⟩
    · have ho2 : ofT E.f.classes h ⟨3,n⟩ ⟨3,c⟩ = false:=by simpa using ho
      have hr : Hid (Run.cast E.f.classes ⟨3,n⟩ c h = raise E.f.classes 3 h):=by show _ = _;unfold Run.cast;rw [if_neg (by simp),if_pos ho2]
      rw [hr.out]
      have HO:=Lib.hid ho2
      clear H ho hv ho2
      go_enter Try.func223,Try.ntmps223
      go_wp2_with (first | (go_at_call 172;refine (of E L h d ⟨3,n⟩ ⟨3,c⟩ _ (HH.out.below (by exact Rd.byB)) hm (fun _=>hv1)).mono ?_;rw [HO.out];rintro e w1 ⟨rfl,hb1⟩;have HB1:=Lib.hid (show Below w.heap.size w w1 from Below.trans (by exact Rd.byB) (hb1.mono (by simp <;> omega)));clear hb1) | (go_at_call 171;refine (mustT _).mono ?_;rintro e w2 ⟨rfl,rfl⟩) | (go_at_call 212;refine (raiseP (HH.out.below HB1.out) hm 3).mono ?_;rintro e w2 ⟨rfl,A⟩;replace A:=Lib.hid A))
      refine And.intro rfl ?_
      exact panR_raise (Lft.before HB1.out A.out)
  · have hr : Hid (Run.cast E.f.classes ⟨kd,n⟩ c h = .stop 6 h):=by show _ = _;unfold Run.cast;rw [if_pos q]
    rw [hr.out]
    have qb : (kd == 3) = false:=by simpa using q
    clear H q hv
    go_enter Try.func223,Try.ntmps223
    go_wp2_with (go_at_call 171;refine (mustF _).mono ?_;rintro e w2 ⟨rfl,rfl⟩)
    refine And.intro rfl ?_
    exact ⟨rfl,Lft.of_below HH.out Rd.byB⟩
set_option maxRecDepth 100000 in
set_option maxHeartbeats 2000000 in
theorem isP (H : PH E w L h d) (hm : Hier.may E.f.classes = true) (v : Vl) (c : Int) (hv : v.kind = 3 → v.n < h.objs.length) :
    Calls Try.prog 224 #[.pointer (some ⟨E.hb,0,none⟩),.agg #[.int .i64 v.kind,.int .i64 v.n],.int .i64 c] w (PanR E L d w vval (Run.isV E.f.classes v c h)):=by
  have HH:=Lib.hid H
  have hhb:=H.hbw
  obtain ⟨kd,n⟩:=v
  by_cases q : kd = 3
  · subst q
    have hv1 : n < h.objs.length:=hv rfl
    by_cases hn : n < 0
    · have hr : Hid (Run.isV E.f.classes ⟨3,n⟩ c h = .ok ⟨1,0⟩ h):=by show _ = _;unfold Run.isV;rw [if_neg (by simp)];simp only;rw [if_neg (fun h=>by omega)]
      rw [hr.out]
      have hd1 : decide (0 ≤ n) = false:=by simp;omega
      clear H hv hn
      go_enter Try.func224,Try.ntmps224
      go_wp2_with (go_at_call 171;refine (mustT _).mono ?_;rintro e w2 ⟨rfl,rfl⟩)
      go_quiet (fail)
      go_wp2
      refine bodyPost_ret (v:=.agg #[.int .i64 1,.int .i64 0]) (by simp [results,Try.results224,go_sem] <;> go_simp) rfl ?_
      exact ⟨rfl,Lft.of_below HH.out Rd.byB⟩
    · have hn0 : 0 ≤ n:=by omega
      obtain ⟨g,cap,hvb,c1,c2,hg,hgne,o0,o1⟩:=H.ob hn0 hv1
      have b0:=H.c0
      have b8:=H.c8
      rw [hvb] at b8
      obtain ⟨ca,ccap,hvc,_⟩:=id H.cls
      have hC : Cs w E.vc E.f.classes:=H.cls.mono mCls (Below.refl _ _) (Nat.le_of_lt (Nat.lt_of_le_of_lt H.base.1 hhb))
      have HC:=Lib.hid hC
      have hwf:=Lib.hid (Hier.wf_of_may hm)
      rw [hvc] at b0 HC
      have hlt2 : n.toNat < h.objs.length:=by omega
      have hd1 : decide (0 ≤ n) = true:=by simp;omega
      obtain ⟨p,hp⟩ : ∃ p,Hid (Hier.is E.f.classes (obj h n).cls c = p):=⟨_,Lib.hid rfl⟩
      obtain ⟨pv,hpv⟩ : ∃ pv : Int,Hid ((if p = true then 1 else 0) = pv):=⟨_,Lib.hid rfl⟩
      have hr : Hid (Run.isV E.f.classes ⟨3,n⟩ c h = .ok ⟨1,pv⟩ h):=by show _ = _;rw [← hpv.out];unfold Run.isV;rw [if_neg (by simp)];simp only;rw [hp.out];simp [hn0]
      rw [hr.out]
      clear H hv hn hvc hvb hC
      go_enter Try.func224,Try.ntmps224
      go_wp2_with (go_at_call 171;refine (mustT _).mono ?_;rintro e w2 ⟨rfl,rfl⟩)
      refine wp_region_held_drew (S:=fun w'=>w'.cell? ⟨E.hb,0,none⟩ = some (.slice ca E.f.classes.length ccap) ∧ w'.cell? ⟨E.hb,8,none⟩ = some (.slice (some ⟨g,0,none⟩) h.objs.length cap) ∧ w'.cell? ⟨g,n.toNat * 2,none⟩ = some (.int .i64 (obj h n).cls) ∧ w'.cell? ⟨w.heap.size,1,none⟩ = some (.int .i64 n)) (by kernel_rfl) (by (try dsimp only);refine ⟨?_,?_,?_,?_⟩ <;> go_simp) (fun hHeld=>?_)
      refine Drawn.tk 0 (some 11) rfl rfl (by assumption) ?_
      try simp only [Act.put,Drawn.La,Drawn.Lb,Drawn.Lc]
      refine Drawn.tk 1 (some 12) rfl rfl (by assumption) ?_
      try simp only [Act.put,Drawn.La,Drawn.Lb,Drawn.Lc]
      refine Drawn.tk 2 (some 13) rfl rfl (by assumption) ?_
      try simp only [Act.put,Drawn.La,Drawn.Lb,Drawn.Lc]
      refine Drawn.tk 3 (some 14) rfl rfl (by assumption) ?_
      try simp only [Act.put,Drawn.La,Drawn.Lb,Drawn.Lc]
      refine Drawn.tk 4 (some 15) rfl rfl (by assumption) ?_
      try simp only [Act.put,Drawn.La,Drawn.Lb,Drawn.Lc]
      refine Drawn.tk 5 (some 16) rfl rfl (by assumption) ?_
      try simp only [Act.put,Drawn.La,Drawn.Lb,Drawn.Lc]
      refine Drawn.tk 6 (some 17) rfl rfl (by assumption) ?_
      try simp only [Act.put,Drawn.La,Drawn.Lb,Drawn.Lc]
      refine Drawn.tk 7 (some 18) rfl rfl (by assumption) ?_
      try simp only [Act.put,Drawn.La,Drawn.Lb,Drawn.Lc]
      refine Drawn.tk 8 (some 19) rfl rfl (by assumption) ?_
      try simp only [Act.put,Drawn.La,Drawn.Lb,Drawn.Lc]
      refine Drawn.tk 9 (some 20) rfl rfl (by assumption) ?_
      try simp only [Act.put,Drawn.La,Drawn.Lb,Drawn.Lc]
      refine Drawn.tk 10 (some 21) rfl rfl (by assumption) ?_
      try simp only [Act.put,Drawn.La,Drawn.Lb,Drawn.Lc]
      refine Drawn.tk 11 (some 22) rfl rfl (by assumption) ?_
      try simp only [Act.put,Drawn.La,Drawn.Lb,Drawn.Lc]
      refine Drawn.tk 12 (some 23) rfl rfl (by assumption) ?_
      try simp only [Act.put,Drawn.La,Drawn.Lb,Drawn.Lc]
      refine Drawn.tk 13 (some 24) rfl rfl (by assumption) ?_
      try simp only [Act.put,Drawn.La,Drawn.Lb,Drawn.Lc]
      refine Drawn.tk 14 (some 25) rfl rfl (by assumption) ?_
      try simp only [Act.put,Drawn.La,Drawn.Lb,Drawn.Lc]
      refine Drawn.tk 15 (some 26) rfl rfl (by assumption) ?_
      try simp only [Act.put,Drawn.La,Drawn.Lb,Drawn.Lc]
      refine Drawn.tk 16 (some 27) rfl rfl (by assumption) ?_
      try simp only [Act.put,Drawn.La,Drawn.Lb,Drawn.Lc]
      refine Drawn.tk 17 (some 28) rfl rfl (by assumption) ?_
      try simp only [Act.put,Drawn.La,Drawn.Lb,Drawn.Lc]
      refine Drawn.tk 18 (some 29) rfl rfl (by assumption) ?_
      try simp only [Act.put,Drawn.La,Drawn.Lb,Drawn.Lc]
      refine wpAnyH_ready (rs:=[19]) (by kernel_rfl) (by simp) ?_
      refine AllReadyH.cons rfl (fun K hK=>?_) AllReadyH.nil
      go_simp
      go_at_call 209
      refine (UpW.is _ E.f.classes (obj h n).cls c _ (HC.out.next (by exact Rd.byB)) hwf.out).mono ?_
      rw [hp.out]
      rintro e w1 ⟨rfl,hb1⟩
      have kk : ∀ (b o : Nat) (u : Value),World.cell? _ ⟨b,o,none⟩ = some u → w1.cell? ⟨b,o,none⟩ = some u:=fun b o u hc=>kept hb1 (cell_lt hc) hc
      have kf : ∀ (b o : Nat) (x : Bool),b < (World.heap _).size → World.frozen? _ ⟨b,o,none⟩ = x → w1.frozen? ⟨b,o,none⟩ = x:=fun b o x hl hc=>frz_kept hb1 hl hc
      have y0:=kk E.hb 0 (.slice ca E.f.classes.length ccap) (by go_simp)
      have y1:=kk E.hb 8 (.slice (some ⟨g,0,none⟩) h.objs.length cap) (by go_simp)
      have y2:=kk g (n.toNat * 2) (.int .i64 (obj h n).cls) (by go_simp)
      have y4:=kk w.heap.size 1 (.int .i64 n) (by go_simp)
      have y5:=kk (w.heap.size + 1) 0 (.int .i64 0) (by go_simp)
      have y6:=kk (w.heap.size + 1) 1 (.int .i64 0) (by go_simp)
      have y7:=kf (w.heap.size + 1) 0 false (by simp) (by go_simp)
      have y8:=kf (w.heap.size + 1) 1 false (by simp) (by go_simp)
      have HB1:=Lib.hid (show Below w.heap.size w w1 from Below.trans (by exact Rd.byB) (hb1.mono (by simp <;> omega)))
      clear kk kf hb1
      go_wp2_with fail
      refine hK.out _ _ (by (try dsimp only);exact ⟨y0,y1,y2,y4⟩) (fun hHeld=>?_)
      clear hK K
      try simp only [Act.put,Drawn.La,Drawn.Lb,Drawn.Lc]
      refine Drawn.tk 20 (some 31) rfl rfl (by assumption) ?_
      try simp only [Act.put,Drawn.La,Drawn.Lb,Drawn.Lc]
      refine wpAnyH_done (by kernel_rfl) ?_ _
      go_wp2_with fail
      · refine bodyPost_ret (v:=.agg #[.int .i64 1,.int .i64 1]) (by simp [results,Try.results224,go_sem] <;> go_simp) rfl ?_
        have hb:=HB1.out
        have e1:=hpv.out
        rw [if_pos (by assumption)] at e1
        subst e1
        exact ⟨rfl,Lft.of_below HH.out Rd.byB⟩
      · refine bodyPost_ret (v:=.agg #[.int .i64 1,.int .i64 0]) (by simp [results,Try.results224,go_sem] <;> go_simp) rfl ?_
        have hb:=HB1.out
        have e1:=hpv.out
        rw [if_neg (by first | assumption | simp_all)] at e1
        subst e1
        exact ⟨rfl,Lft.of_below HH.out Rd.byB⟩
  · have hr : Hid (Run.isV E.f.classes ⟨kd,n⟩ c h = .stop 6 h):=by show _ = _;unfold Run.isV;rw [if_pos q]
    rw [hr.out]
    have qb : (kd == 3) = false:=by simpa using q
    clear H q hv
    go_enter Try.func224,Try.ntmps224
    go_wp2_with (go_at_call 171;refine (mustF _).mono ?_;rintro e w2 ⟨rfl,rfl⟩)
    refine And.intro rfl ?_
    exact ⟨rfl,Lft.of_below HH.out Rd.byB⟩
set_option maxRecDepth 100000 in
set_option maxHeartbeats 2000000 in
theorem reckonI (H : PH E w L h d) (hm : Hier.may E.f.classes = true) (a b : Vl) (op : Int) (hok : Ok a.n) :
    Calls Try.prog 242 #[.pointer (some ⟨E.hb,0,none⟩),.agg #[.int .i64 a.kind,.int .i64 a.n],.agg #[.int .i64 b.kind,.int .i64 b.n],.int .i64 1,.int .i64 op,.func (.func 216) #[] #[]] w (PanR E L d w vval (Run.reckon E.f.classes a b 1 op h)):=by
  have HH:=Lib.hid H
  obtain ⟨ak,an⟩:=a
  obtain ⟨bk,bn⟩:=b
  by_cases q1 : ak = 1
  · by_cases q2 : bk = 1
    · subst q1 q2
      obtain ⟨⟨x,o⟩,hx⟩ : ∃ x,Hid (Num.int op an bn = x):=⟨_,Lib.hid rfl⟩
      have hno : Hid (numOf 1 op an bn = (x,o)):=by show _ = _;unfold numOf;first | rw [if_pos rfl,hx.out] | rw [if_neg (by decide),hx.out]
      cases o
      · have hr : Hid (Run.reckon E.f.classes ⟨1,an⟩ ⟨1,bn⟩ 1 op h = raise E.f.classes 2 h):=by show _ = _;unfold Run.reckon;rw [if_neg (by simp)];simp only;rw [hno.out];simp
        rw [hr.out]
        clear H
        go_enter Try.func242,Try.ntmps242
        go_wp2_with (first | (go_at_call 171;refine (mustT _).mono ?_;rintro e w2 ⟨rfl,rfl⟩) | (go_at_call 216;refine (NumW.int op an bn _).mono ?_;rw [hx.out];rintro e w2 ⟨rfl,rfl⟩) | (go_at_call 212;refine (raiseP (HH.out.below (by exact Rd.byB)) hm 2).mono ?_;rintro e w2 ⟨rfl,A⟩;replace A:=Lib.hid (Lft.before (w:=w) (by exact Rd.byB) A)))
        refine And.intro rfl ?_
        exact panR_raise A.out
      · have hr : Hid (Run.reckon E.f.classes ⟨1,an⟩ ⟨1,bn⟩ 1 op h = .ok ⟨1,x⟩ h):=by show _ = _;unfold Run.reckon;rw [if_neg (by simp)];simp only;rw [hno.out];simp
        rw [hr.out]
        clear H
        go_enter Try.func242,Try.ntmps242
        go_wp2_with (first | (go_at_call 171;refine (mustT _).mono ?_;rintro e w2 ⟨rfl,rfl⟩) | (go_at_call 216;refine (NumW.int op an bn _).mono ?_;rw [hx.out];rintro e w2 ⟨rfl,rfl⟩))
        refine bodyPost_ret (v:=.agg #[.int .i64 1,.int .i64 x]) (by simp [results,Try.results242,go_sem] <;> go_simp) rfl ?_
        exact ⟨rfl,Lft.of_below HH.out Rd.byB⟩
    · have hr : Hid (Run.reckon E.f.classes ⟨ak,an⟩ ⟨bk,bn⟩ 1 op h = .stop 6 h):=by show _ = _;unfold Run.reckon;rw [if_pos (.inr q2)]
      rw [hr.out]
      subst q1
      have qb : (bk == 1) = false:=by simpa using q2
      clear H q2
      go_enter Try.func242,Try.ntmps242
      go_wp2_with (go_at_call 171;refine (mustF _).mono ?_;rintro e w2 ⟨rfl,rfl⟩)
      refine And.intro rfl ?_
      exact ⟨rfl,Lft.of_below HH.out Rd.byB⟩
  · have hr : Hid (Run.reckon E.f.classes ⟨ak,an⟩ ⟨bk,bn⟩ 1 op h = .stop 6 h):=by show _ = _;unfold Run.reckon;rw [if_pos (.inl q1)]
    rw [hr.out]
    have qb : (ak == 1) = false:=by simpa using q1
    clear H q1
    go_enter Try.func242,Try.ntmps242
    go_wp2_with (go_at_call 171;refine (mustF _).mono ?_;rintro e w2 ⟨rfl,rfl⟩)
    refine And.intro rfl ?_
    exact ⟨rfl,Lft.of_below HH.out Rd.byB⟩
set_option maxRecDepth 100000 in
set_option maxHeartbeats 2000000 in
theorem reckonL (H : PH E w L h d) (hm : Hier.may E.f.classes = true) (a b : Vl) (op : Int) (hok : Ok a.n) :
    Calls Try.prog 242 #[.pointer (some ⟨E.hb,0,none⟩),.agg #[.int .i64 a.kind,.int .i64 a.n],.agg #[.int .i64 b.kind,.int .i64 b.n],.int .i64 2,.int .i64 op,.func (.func 217) #[] #[]] w (PanR E L d w vval (Run.reckon E.f.classes a b 2 op h)):=by
  have HH:=Lib.hid H
  obtain ⟨ak,an⟩:=a
  obtain ⟨bk,bn⟩:=b
  by_cases q1 : ak = 2
  · by_cases q2 : bk = 2
    · subst q1 q2
      obtain ⟨⟨x,o⟩,hx⟩ : ∃ x,Hid (Num.long op an bn = x):=⟨_,Lib.hid rfl⟩
      have hno : Hid (numOf 2 op an bn = (x,o)):=by show _ = _;unfold numOf;first | rw [if_pos rfl,hx.out] | rw [if_neg (by decide),hx.out]
      cases o
      · have hr : Hid (Run.reckon E.f.classes ⟨2,an⟩ ⟨2,bn⟩ 2 op h = raise E.f.classes 2 h):=by show _ = _;unfold Run.reckon;rw [if_neg (by simp)];simp only;rw [hno.out];simp
        rw [hr.out]
        clear H
        go_enter Try.func242,Try.ntmps242
        go_wp2_with (first | (go_at_call 171;refine (mustT _).mono ?_;rintro e w2 ⟨rfl,rfl⟩) | (go_at_call 217;refine (NumW.long op an bn _ hok).mono ?_;rw [hx.out];rintro e w2 ⟨rfl,rfl⟩) | (go_at_call 212;refine (raiseP (HH.out.below (by exact Rd.byB)) hm 2).mono ?_;rintro e w2 ⟨rfl,A⟩;replace A:=Lib.hid (Lft.before (w:=w) (by exact Rd.byB) A)))
        refine And.intro rfl ?_
        exact panR_raise A.out
      · have hr : Hid (Run.reckon E.f.classes ⟨2,an⟩ ⟨2,bn⟩ 2 op h = .ok ⟨2,x⟩ h):=by show _ = _;unfold Run.reckon;rw [if_neg (by simp)];simp only;rw [hno.out];simp
        rw [hr.out]
        clear H
        go_enter Try.func242,Try.ntmps242
        go_wp2_with (first | (go_at_call 171;refine (mustT _).mono ?_;rintro e w2 ⟨rfl,rfl⟩) | (go_at_call 217;refine (NumW.long op an bn _ hok).mono ?_;rw [hx.out];rintro e w2 ⟨rfl,rfl⟩))
        refine bodyPost_ret (v:=.agg #[.int .i64 2,.int .i64 x]) (by simp [results,Try.results242,go_sem] <;> go_simp) rfl ?_
        exact ⟨rfl,Lft.of_below HH.out Rd.byB⟩
    · have hr : Hid (Run.reckon E.f.classes ⟨ak,an⟩ ⟨bk,bn⟩ 2 op h = .stop 6 h):=by show _ = _;unfold Run.reckon;rw [if_pos (.inr q2)]
      rw [hr.out]
      subst q1
      have qb : (bk == 2) = false:=by simpa using q2
      clear H q2
      go_enter Try.func242,Try.ntmps242
      go_wp2_with (go_at_call 171;refine (mustF _).mono ?_;rintro e w2 ⟨rfl,rfl⟩)
      refine And.intro rfl ?_
      exact ⟨rfl,Lft.of_below HH.out Rd.byB⟩
  · have hr : Hid (Run.reckon E.f.classes ⟨ak,an⟩ ⟨bk,bn⟩ 2 op h = .stop 6 h):=by show _ = _;unfold Run.reckon;rw [if_pos (.inl q1)]
    rw [hr.out]
    have qb : (ak == 2) = false:=by simpa using q1
    clear H q1
    go_enter Try.func242,Try.ntmps242
    go_wp2_with (go_at_call 171;refine (mustF _).mono ?_;rintro e w2 ⟨rfl,rfl⟩)
    refine And.intro rfl ?_
    exact ⟨rfl,Lft.of_below HH.out Rd.byB⟩
end
end Hpw
end Go.Proofs.Ytncmhenfgbcihab
namespace Go.Proofs.Ytncmhenfgbcihab
open Go.RowKit
set_option linter.unusedVariables false
set_option linter.unusedSimpArgs false
namespace Run
open D Num
inductive Out (Fr : Type) where
  | go (fr : Fr) (h : Hp)
  | back (v : Vl) (h : Hp)
  | thrown (o : Nat) (h : Hp)
  | stop (e : Int) (h : Hp)
section
variable {Fr : Type}
def outC (M : Mach Fr) (m callee : Me) (fr : Fr) : Res Vl → Out Fr
  | .stop e h=>.stop e h
  | .thrown o h=>.thrown o h
  | .ok v h=>match M.resume m callee fr v with
    | none=>.stop 6 h
    | some fr=>.go fr h
def outA (M : Mach Fr) (f : Fi) (input : List Int) (fuel g d : Nat) (m : Me) : Act Fr → Out Fr
  | .go fr h=>.go fr h
  | .back v h=>.back v h
  | .thrown o h=>.thrown o h
  | .stop e h=>.stop e h
  | .call k args fr h=>outC M m (meAt f k) fr (call M f input fuel g d (meAt f k) args h)
def outS (M : Mach Fr) (f : Fi) (input : List Int) (fuel g d : Nat) (m : Me) (fr : Fr) (h : Hp) : Out Fr :=
  if fuel ≤ h.steps then .stop 0 h
  else match m.code[M.at_ fr]? with
    | none=>.stop 6 { h with steps:=h.steps + 1 }
    | some i=>outA M f input fuel g d m (M.step f input m i fr { h with steps:=h.steps + 1 })
def SameFrame (M : Mach Fr) : Prop:=∀ f input m i fr h k args fr' h',M.step f input m i fr h = .call k args fr' h' → ∀ f m o h,after M f m fr' o h = after M f m fr o h
theorem loop_out {M : Mach Fr} (hM : SameFrame M) (f : Fi) (input : List Int) (fuel g d : Nat) (m : Me) (fr : Fr) (h : Hp) :
    loop M f input fuel (g + 1) d m fr h = match outS M f input fuel g d m fr h with
      | .stop e h=>.stop e h
      | .back v h=>.ok v h
      | .go fr h=>loop M f input fuel g d m fr h
      | .thrown o h=>match after M f m fr o h with
        | .go fr=>loop M f input fuel g d m fr h
        | .thrown=>.thrown o h
        | .stuck=>.stop 6 h:=by
  unfold outS
  rw [loop]
  split
  · rfl
  · cases hi : m.code[M.at_ fr]? with
    | none=>rfl
    | some i =>
      simp only
      cases hst : M.step f input m i fr { h with steps:=h.steps + 1 } with
      | go fr h=>rfl
      | back v h=>rfl
      | thrown o h=>rfl
      | stop e h=>rfl
      | call k args fr' h' =>
        have hA:=hM _ _ _ _ _ _ _ _ _ _ hst
        simp only [outA,call]
        cases allOf f.classes h' args (meAt f k).params
        · rfl
        · simp only [Bool.true_eq_false,if_false]
          by_cases hd : 20 ≤ d
          · simp only [hd,if_true];rfl
          · simp only [hd,if_false]
            cases hl : loop M f input fuel g (d + 1) (meAt f k) (M.enter (meAt f k) args) h' with
            | stop e h=>rfl
            | thrown o h=>simp only [outC,hA];cases after M f m fr o h <;> rfl
            | ok v h =>
              simp only [outC]
              cases M.resume m (meAt f k) fr' v <;> rfl
end
theorem pop1_call {fr : Sf} {h : Hp} {K : Vl → List Vl → Act Sf} {k : Nat} {args : List Vl} {fr' : Sf} {h' : Hp} (hK : ∀ v st,K v st ≠ .call k args fr' h') : pop1 fr h K ≠ .call k args fr' h':=by
  unfold pop1;split
  · intro e;cases e
  · exact hK _ _
theorem act_call {α Fr : Type} {r : Res α} {K : α → Hp → Act Fr} {k : Nat} {args : List Vl} {fr' : Fr} {h' : Hp} (hK : ∀ v h,K v h ≠ .call k args fr' h') : r.act K ≠ .call k args fr' h':=by
  cases r with
  | ok a h=>exact hK a h
  | thrown o h=>intro e;cases e
  | stop e h=>intro e;cases e
theorem push_call {m : Me} {fr : Sf} {st : List Vl} {v : Vl} {h : Hp} {k : Nat} {args : List Vl} {fr' : Sf} {h' : Hp} : push m fr st v h ≠ .call k args fr' h':=by
  unfold push;split <;> (intro e;cases e)
theorem kindly_call {v : Vl} {kd : Int} {h : Hp} {A : Act Sf} {k : Nat} {args : List Vl} {fr' : Sf} {h' : Hp} (hA : A ≠ .call k args fr' h') : kindly v kd h A ≠ .call k args fr' h':=by
  unfold kindly;split
  · exact hA
  · intro e;cases e
theorem rkind_call {v : Vl} {kd : Int} {h : Hp} {A : Act Rf} {k : Nat} {args : List Vl} {fr' : Rf} {h' : Hp} (hA : A ≠ .call k args fr' h') : rkind v kd h A ≠ .call k args fr' h':=by
  unfold rkind;split
  · exact hA
  · intro e;cases e
theorem sstep_call {f : Fi} {input : List Int} {m : Me} {i : Ins} {fr : Sf} {h : Hp} {k : Nat} {args : List Vl} {fr' : Sf} {h' : Hp} (he : sstep f input m i fr h = .call k args fr' h') : i.op = 19 ∧ fr'.at_ = fr.at_ ∧ fr'.loc = fr.loc:=by
  by_cases q : i.op = 19
  · refine ⟨q,?_⟩
    unfold sstep at he
    repeat rw [if_neg (by omega)] at he
    rw [if_pos q] at he
    unfold s19 at he
    split at he
    · cases he
    · injection he with _ _ e _
      subst e;exact ⟨rfl,rfl⟩
  · exfalso
    revert he
    unfold sstep
    by_cases q1 : i.op = 1
    · rw [if_pos q1];exact push_call
    rw [if_neg q1]
    by_cases q2 : i.op = 2
    · rw [if_pos q2];exact push_call
    rw [if_neg q2]
    by_cases q3 : i.op = 3
    · rw [if_pos q3];exact push_call
    rw [if_neg q3]
    by_cases q4 : i.op = 4
    · rw [if_pos q4];exact kindly_call push_call
    rw [if_neg q4]
    by_cases q5 : i.op = 5
    · rw [if_pos q5];exact pop1_call (fun v st=>kindly_call (fun e=>by cases e))
    rw [if_neg q5]
    by_cases q6 : i.op = 6
    · rw [if_pos q6];unfold s67 pop2;refine pop1_call (fun v st=>?_);split
      · intro e;cases e
      · exact act_call (fun v h=>push_call)
    rw [if_neg q6]
    by_cases q7 : i.op = 7
    · rw [if_pos q7];unfold s67 pop2;refine pop1_call (fun v st=>?_);split
      · intro e;cases e
      · exact act_call (fun v h=>push_call)
    rw [if_neg q7]
    by_cases q8 : i.op = 8
    · rw [if_pos q8];exact pop1_call (fun v st=>kindly_call push_call)
    rw [if_neg q8]
    by_cases q9 : i.op = 9
    · rw [if_pos q9];exact pop1_call (fun v st=>kindly_call push_call)
    rw [if_neg q9]
    by_cases q10 : i.op = 10
    · rw [if_pos q10];unfold s10 pop2;refine pop1_call (fun v st=>?_);split
      · intro e;cases e
      · exact kindly_call (kindly_call push_call)
    rw [if_neg q10]
    by_cases q11 : i.op = 11
    · rw [if_pos q11];intro e;cases e
    rw [if_neg q11]
    by_cases q12 : i.op = 12
    · rw [if_pos q12];exact pop1_call (fun v st=>kindly_call (fun e=>by cases e))
    rw [if_neg q12]
    by_cases q13 : i.op = 13
    · rw [if_pos q13];exact pop1_call (fun v st=>kindly_call (fun e=>by cases e))
    rw [if_neg q13]
    by_cases q14 : i.op = 14
    · rw [if_pos q14];exact act_call (fun v h=>push_call)
    rw [if_neg q14]
    by_cases q15 : i.op = 15
    · rw [if_pos q15];exact pop1_call (fun v st=>act_call (fun v h=>push_call))
    rw [if_neg q15]
    by_cases q16 : i.op = 16
    · rw [if_pos q16];unfold s16 pop2;refine pop1_call (fun v st=>?_);split
      · intro e;cases e
      · exact kindly_call (act_call (fun v h e=>by cases e))
    rw [if_neg q16]
    by_cases q17 : i.op = 17
    · rw [if_pos q17];exact pop1_call (fun v st=>act_call (fun v h=>push_call))
    rw [if_neg q17]
    by_cases q18 : i.op = 18
    · rw [if_pos q18];exact pop1_call (fun v st=>act_call (fun v h=>push_call))
    rw [if_neg q18,if_neg q]
    by_cases q20 : i.op = 20
    · rw [if_pos q20];unfold s20;split
      · intro e;cases e
      · refine pop1_call (fun v st=>?_);split <;> (intro e;cases e)
    rw [if_neg q20]
    by_cases q21 : i.op = 21
    · rw [if_pos q21];exact pop1_call (fun v st=>act_call (fun v h e=>by cases e))
    rw [if_neg q21]
    by_cases q22 : i.op = 22
    · rw [if_pos q22];exact pop1_call (fun v st e=>by cases e)
    rw [if_neg q22]
    by_cases q23 : i.op = 23
    · rw [if_pos q23];refine pop1_call (fun v st=>?_);split <;> (intro e;cases e)
    rw [if_neg q23]
    by_cases q24 : i.op = 24
    · rw [if_pos q24];exact pop1_call (fun v st=>act_call (fun v h e=>by cases e))
    rw [if_neg q24]
    by_cases q25 : i.op = 25
    · rw [if_pos q25];exact act_call (fun v h=>push_call)
    rw [if_neg q25]
    intro e;cases e
theorem sm_same : SameFrame SM:=by
  intro f input m i fr h k args fr' h' he f2 m2 o h2
  obtain ⟨_,e1,e2⟩:=sstep_call he
  have hat : SM.at_ fr' = SM.at_ fr:=e1
  have hcg : SM.caught m2 fr' = SM.caught m2 fr:=by
    funext a b
    show scaught m2 fr' a b = scaught m2 fr a b
    unfold scaught on
    rw [e2]
  unfold after
  rw [hat,hcg]
theorem rstep_call {f : Fi} {input : List Int} {m : Me} {i : Ins} {fr : Rf} {h : Hp} {k : Nat} {args : List Vl} {fr' : Rf} {h' : Hp} (he : rstep f input m i fr h = .call k args fr' h') : i.op = 18 ∧ fr'.at_ = fr.at_ ∧ fr'.regs = fr.regs:=by
  by_cases q : i.op = 18
  · refine ⟨q,?_⟩
    unfold rstep at he
    repeat rw [if_neg (by omega)] at he
    rw [if_pos q] at he
    unfold r18 at he
    split at he
    · cases he
    · injection he with _ _ e _
      subst e;exact ⟨rfl,rfl⟩
  · exfalso
    revert he
    unfold rstep
    have hset : ∀ {fr : Rf} {a : Int} {v : Vl} {h : Hp},rset fr a v h ≠ .call k args fr' h':=fun e=>by cases e
    have hgo : ∀ {fr : Rf} {a : Nat} {h : Hp},rgo fr a h ≠ .call k args fr' h':=fun e=>by cases e
    by_cases q1 : i.op = 1
    · rw [if_pos q1];exact hset
    rw [if_neg q1]
    by_cases q2 : i.op = 2
    · rw [if_pos q2];exact hset
    rw [if_neg q2]
    by_cases q3 : i.op = 3
    · rw [if_pos q3];exact hset
    rw [if_neg q3]
    by_cases q4 : i.op = 4
    · rw [if_pos q4];exact rkind_call hset
    rw [if_neg q4]
    by_cases q5 : i.op = 5
    · rw [if_pos q5];exact act_call (fun v h=>hset)
    rw [if_neg q5]
    by_cases q6 : i.op = 6
    · rw [if_pos q6];exact act_call (fun v h=>hset)
    rw [if_neg q6]
    by_cases q7 : i.op = 7
    · rw [if_pos q7];exact rkind_call hset
    rw [if_neg q7]
    by_cases q8 : i.op = 8
    · rw [if_pos q8];exact rkind_call hset
    rw [if_neg q8]
    by_cases q9 : i.op = 9
    · rw [if_pos q9];exact rkind_call (rkind_call hset)
    rw [if_neg q9]
    by_cases q10 : i.op = 10
    · rw [if_pos q10];exact hgo
    rw [if_neg q10]
    by_cases q11 : i.op = 11
    · rw [if_pos q11];exact rkind_call hgo
    rw [if_neg q11]
    by_cases q12 : i.op = 12
    · rw [if_pos q12];exact rkind_call hgo
    rw [if_neg q12]
    by_cases q13 : i.op = 13
    · rw [if_pos q13];exact act_call (fun v h=>hset)
    rw [if_neg q13]
    by_cases q14 : i.op = 14
    · rw [if_pos q14];exact rkind_call (act_call (fun v h=>hset))
    rw [if_neg q14]
    by_cases q15 : i.op = 15
    · rw [if_pos q15];exact rkind_call (rkind_call (act_call (fun v h=>hgo)))
    rw [if_neg q15]
    by_cases q16 : i.op = 16
    · rw [if_pos q16];exact rkind_call (act_call (fun v h=>hgo))
    rw [if_neg q16]
    by_cases q17 : i.op = 17
    · rw [if_pos q17];exact rkind_call (act_call (fun v h=>hset))
    rw [if_neg q17,if_neg q]
    by_cases q19 : i.op = 19
    · rw [if_pos q19];exact rkind_call hset
    rw [if_neg q19]
    by_cases q20 : i.op = 20
    · rw [if_pos q20];unfold r20;split
      · intro e;cases e
      · refine rkind_call ?_;split <;> (intro e;cases e)
    rw [if_neg q20]
    by_cases q21 : i.op = 21
    · rw [if_pos q21];exact rkind_call (act_call (fun v h e=>by cases e))
    rw [if_neg q21]
    by_cases q22 : i.op = 22
    · rw [if_pos q22];exact rkind_call hset
    rw [if_neg q22]
    by_cases q23 : i.op = 23
    · rw [if_pos q23];exact rkind_call (act_call (fun v h=>hgo))
    rw [if_neg q23]
    by_cases q24 : i.op = 24
    · rw [if_pos q24];exact act_call (fun v h=>hset)
    rw [if_neg q24]
    intro e;cases e
theorem rm_same : SameFrame RM:=by
  intro f input m i fr h k args fr' h' he f2 m2 o h2
  obtain ⟨_,e1,e2⟩:=rstep_call he
  have hat : RM.at_ fr' = RM.at_ fr:=e1
  have hcg : RM.caught m2 fr' = RM.caught m2 fr:=by
    funext a b
    show rcaught m2 fr' a b = rcaught m2 fr a b
    unfold rcaught
    rw [e2]
  unfold after
  rw [hat,hcg]
end Run
end Go.Proofs.Ytncmhenfgbcihab
namespace Go.Proofs.Ytncmhenfgbcihab
open Go.RowKit
set_option linter.unusedVariables false
namespace Run
theorem stk_last {l : List Vl} (h : l ≠ []) : l = l.dropLast ++ [top l]:=by
  unfold top
  rw [List.getLast?_eq_some_getLast h]
  exact (List.dropLast_concat_getLast h).symm
theorem stk_drop1 {l : List Vl} (h : l ≠ []) : l.drop (l.length - 1) = [top l]:=by
  have e:=stk_last h
  have hl : l.length - 1 = l.dropLast.length:=by simp
  rw [hl]
  conv=>lhs;rw [e]
  simp
theorem stk_take1 (l : List Vl) : l.take (l.length - 1) = l.dropLast:=(List.dropLast_eq_take).symm
theorem stk_drop2 {l : List Vl} (h : l ≠ []) (h2 : l.dropLast ≠ []) : l.drop (l.length - 2) = [top l.dropLast,top l]:=by
  have e:=stk_last h
  have e2:=stk_last h2
  have hl : l.length - 2 = l.dropLast.dropLast.length:=by simp;omega
  rw [hl]
  conv=>lhs;rw [e]
  rw [show l.dropLast ++ [top l] = l.dropLast.dropLast ++ [top l.dropLast, top l] by conv => lhs; rw [e2]
                                                                                     simp]
  simp
theorem stk_take2 (l : List Vl) : l.take (l.length - 2) = l.dropLast.dropLast:=by
  rw [List.dropLast_eq_take,List.dropLast_eq_take,List.take_take,List.length_take]
  congr 1
  omega
theorem stk_ne {l : List Vl} (h : l ≠ []) : 1 ≤ l.length:=by cases l <;> simp_all
theorem stk_ne2 {l : List Vl} (h : l ≠ []) (h2 : l.dropLast ≠ []) : 2 ≤ l.length:=by
  have:=stk_ne h
  have h3:=stk_ne h2
  rw [List.length_dropLast] at h3
  omega
end Run
end Go.Proofs.Ytncmhenfgbcihab
namespace Go.Proofs.Ytncmhenfgbcihab
open Go.RowKit
set_option linter.unusedVariables false
set_option linter.unusedSimpArgs false
namespace Run
open D Num
def callA (m m2 : Me) (fr : Sf) (r : Res Vl) : Act Sf:=match r with
  | .stop e h=>.stop e h
  | .ok v h=>(match sresume m m2 fr v with
    | none=>.stop 6 h
    | some fr=>.go fr h)
  | .thrown o h=>.thrown o h
def actS (f : Fi) (input : List Int) (fuel g d : Nat) (m : Me) (i : Ins) (fr : Sf) (h : Hp) : Act Sf :=
  match sstep f input m i fr h with
  | .call k args fr' h'=>callA m (meAt f k) fr' (call SM f input fuel g d (meAt f k) args h')
  | a=>a
theorem stk_of_size : ∀ l : List Vl,l.length ≤ size l:=by
  intro l
  induction l with
  | nil=>simp [size]
  | cons v l ih=>have:=width_le v;simp only [size,List.length_cons];omega
def ActL : Act Sf → Prop
  | .go fr _=>fr.stk.length ≤ 40
  | .call _ _ fr _=>fr.stk.length ≤ 40
  | _=>True
def ActF (fr : Sf) : Act Sf → Prop
  | .call _ _ fr' _=>fr'.loc = fr.loc ∧ fr'.at_ = fr.at_
  | _=>True
section
variable {f : Fi} {input : List Int} {fuel g d : Nat} {m : Me} {i : Ins} {fr : Sf} {h : Hp}
theorem push_l (hs : m.stack < 31) (st : List Vl) (v : Vl) (h : Hp) : ActL (push m fr st v h) ∧ ActF fr (push m fr st v h):=by
  unfold push
  split
  · rename_i q
    have:=stk_of_size (st ++ [v])
    refine ⟨?_,trivial⟩
    show (st ++ [v]).length ≤ 40
    omega
  · exact ⟨trivial,trivial⟩
theorem pop1_l (hl : fr.stk.length ≤ 40) {k : Vl → List Vl → Act Sf} (hk : ∀ v st,st.length ≤ 40 → ActL (k v st) ∧ ActF fr (k v st)) : ActL (pop1 fr h k) ∧ ActF fr (pop1 fr h k):=by
  unfold pop1
  split
  · exact ⟨trivial,trivial⟩
  · exact hk _ _ (by rw [List.length_dropLast];omega)
theorem pop2_l (hl : fr.stk.length ≤ 40) {k : Vl → Vl → List Vl → Act Sf} (hk : ∀ a b st,st.length ≤ 40 → ActL (k a b st) ∧ ActF fr (k a b st)) : ActL (pop2 fr h k) ∧ ActF fr (pop2 fr h k):=by
  unfold pop2
  refine pop1_l hl (fun b st hs=>?_)
  split
  · exact ⟨trivial,trivial⟩
  · exact hk _ _ _ (by rw [List.length_dropLast];omega)
theorem kindly_l {v : Vl} {kind : Int} {k : Act Sf} (hk : ActL k ∧ ActF fr k) : ActL (kindly v kind h k) ∧ ActF fr (kindly v kind h k):=by
  unfold kindly
  split
  · exact hk
  · exact ⟨trivial,trivial⟩
theorem act_l {α : Type} {r : Res α} {k : α → Hp → Act Sf} (hk : ∀ a h,ActL (k a h) ∧ ActF fr (k a h)) : ActL (r.act k) ∧ ActF fr (r.act k):=by
  cases r with
  | ok a h=>exact hk a h
  | thrown o h=>exact ⟨trivial,trivial⟩
  | stop e h=>exact ⟨trivial,trivial⟩
theorem ite_l {c : Prop} [Decidable c] {a b : Act Sf} (ha : ActL a ∧ ActF fr a) (hb : ActL b ∧ ActF fr b) : ActL (if c then a else b) ∧ ActF fr (if c then a else b):=by
  split
  · exact ha
  · exact hb
theorem l19 (hl : fr.stk.length ≤ 40) : ActL (s19 f i fr h) ∧ ActF fr (s19 f i fr h):=by
  unfold s19
  refine ite_l ⟨trivial,trivial⟩ ⟨?_,rfl,rfl⟩
  show (fr.stk.take _).length ≤ 40
  rw [List.length_take];omega
theorem l20 {l : List Cls} (hl : fr.stk.length ≤ 40) : ActL (s20 l m fr h) ∧ ActF fr (s20 l m fr h):=by
  unfold s20
  exact ite_l ⟨trivial,trivial⟩ (pop1_l hl (fun v st hs=>ite_l ⟨trivial,trivial⟩ ⟨trivial,trivial⟩))
theorem l23 (hs : m.stack < 31) (hl : fr.stk.length ≤ 40) : ActL (s23 m fr h) ∧ ActF fr (s23 m fr h):=by
  unfold s23
  refine pop1_l hl (fun v st hs2=>?_)
  by_cases q : (size (st ++ [v,v]) : Int) ≤ m.stack
  · rw [if_pos q]
    have:=stk_of_size (st ++ [v,v])
    refine ⟨?_,trivial⟩
    show (st ++ [v,v]).length ≤ 40
    omega
  · rw [if_neg q];exact ⟨trivial,trivial⟩
theorem sstep_l (hs : m.stack < 31) (hl : fr.stk.length ≤ 40) : ActL (sstep f input m i fr h) ∧ ActF fr (sstep f input m i fr h):=by
  have P:=fun st v h=>push_l (fr:=fr) hs st v h
  unfold sstep
  refine ite_l (P _ _ _) ?_
  refine ite_l (P _ _ _) ?_
  refine ite_l (P _ _ _) ?_
  refine ite_l (kindly_l (P _ _ _)) ?_
  refine ite_l (pop1_l hl (fun v st hs=>kindly_l ⟨hs,trivial⟩)) ?_
  refine ite_l (pop2_l hl (fun a b st hs=>act_l (fun v h=>P _ _ _))) ?_
  refine ite_l (pop2_l hl (fun a b st hs=>act_l (fun v h=>P _ _ _))) ?_
  refine ite_l (pop1_l hl (fun v st hs=>kindly_l (P _ _ _))) ?_
  refine ite_l (pop1_l hl (fun v st hs=>kindly_l (P _ _ _))) ?_
  refine ite_l (pop2_l hl (fun a b st hs=>kindly_l (kindly_l (P _ _ _)))) ?_
  refine ite_l (⟨hl,trivial⟩) ?_
  refine ite_l (pop1_l hl (fun v st hs=>kindly_l ⟨hs,trivial⟩)) ?_
  refine ite_l (pop1_l hl (fun v st hs=>kindly_l ⟨hs,trivial⟩)) ?_
  refine ite_l (act_l (fun v h=>P _ _ _)) ?_
  refine ite_l (pop1_l hl (fun v st hs=>act_l (fun v h=>P _ _ _))) ?_
  refine ite_l (pop2_l hl (fun a b st hs=>kindly_l (act_l (fun v h=>⟨hs,trivial⟩)))) ?_
  refine ite_l (pop1_l hl (fun v st hs=>act_l (fun v h=>P _ _ _))) ?_
  refine ite_l (pop1_l hl (fun v st hs=>act_l (fun v h=>P _ _ _))) ?_
  refine ite_l (l19 hl) ?_
  refine ite_l (l20 hl) ?_
  refine ite_l (pop1_l hl (fun v st hs=>act_l (fun v h=>⟨trivial,trivial⟩))) ?_
  refine ite_l (pop1_l hl (fun v st hs=>⟨hs,trivial⟩)) ?_
  refine ite_l (l23 hs hl) ?_
  refine ite_l (pop1_l hl (fun v st hs=>act_l (fun v h=>⟨hs,trivial⟩))) ?_
  refine ite_l (act_l (fun v h=>P _ _ _)) ?_
  exact ⟨trivial,trivial⟩
def ActS (f : Fi) (input : List Int) (fuel : Nat) (m : Me) (h0 : Hp) : Act Sf → Prop
  | .go fr h=>(HpOk f.classes input fuel h ∧ h0.objs.length ≤ h.objs.length ∧ h0.steps ≤ h.steps) ∧ SfOk m h.objs.length fr ∧ fr.stk.length ≤ 40
  | .back v h=>(HpOk f.classes input fuel h ∧ h0.objs.length ≤ h.objs.length ∧ h0.steps ≤ h.steps) ∧ RetOk m h.objs.length v
  | .thrown o h=>(HpOk f.classes input fuel h ∧ h0.objs.length ≤ h.objs.length ∧ h0.steps ≤ h.steps) ∧ o < h.objs.length
  | .stop _ h=>HpOk f.classes input fuel h ∧ h0.objs.length ≤ h.objs.length ∧ h0.steps ≤ h.steps
  | .call ..=>False
theorem actS_ok (K : MachOk SM SfOk f input fuel) (M : MeS f m) (hm : m ∈ f.methods) (hi : i ∈ m.code) (H : HpOk f.classes input fuel h) (ho : h.out.length < h.steps) (hf : SfOk m h.objs.length fr) (hl : fr.stk.length ≤ 40) : ActS f input fuel m h (actS f input fuel g d m i fr h):=by
  have h1:=K.step m hm i hi fr h H ho hf
  have h2:=sstep_l (f:=f) (input:=input) (i:=i) (h:=h) M.stack.2 hl
  have h1' : ActOk SfOk f input fuel m h (sstep f input m i fr h):=h1
  unfold actS
  revert h1' h2
  generalize sstep f input m i fr h = a
  intro hA h1
  cases a with
  | go fr' h'=>exact ⟨⟨h1.1.1,h1.1.2.1,by rw [h1.1.2.2];exact Nat.le_refl _⟩,h1.2,hA.1⟩
  | back v h'=>exact ⟨⟨h1.1.1,h1.1.2.1,by rw [h1.1.2.2];exact Nat.le_refl _⟩,h1.2⟩
  | thrown o h'=>exact ⟨⟨h1.1.1,h1.1.2.1,by rw [h1.1.2.2];exact Nat.le_refl _⟩,h1.2⟩
  | stop e h'=>exact ⟨h1.1,h1.2.1,by rw [h1.2.2];exact Nat.le_refl _⟩
  | call k args fr' h' =>
    obtain ⟨F,hfr,hv,hal,hk⟩:=h1
    have hmem:=meAt_mem hk
    have hc:=call_ok K g d (meAt f k) args h' hmem F.1 hv hal
    show ActS f input fuel m h (callA m (meAt f k) fr' (call SM f input fuel g d (meAt f k) args h'))
    revert hc
    generalize call SM f input fuel g d (meAt f k) args h' = r
    intro hc
    have hst : h'.steps = h.steps:=F.2.2
    cases r with
    | stop e h2=>exact ⟨hc.1,by have:=hc.2.1;have:=F.2.1;omega,by have:=hc.2.2;omega⟩
    | thrown o h2=>exact ⟨⟨hc.1.1,by have:=hc.1.2.1;have:=F.2.1;omega,by have:=hc.1.2.2;omega⟩,hc.2⟩
    | ok v h2 =>
      have hb : HpOk f.classes input fuel h2 ∧ h.objs.length ≤ h2.objs.length ∧ h.steps ≤ h2.steps:=⟨hc.1.1,by have:=hc.1.2.1;have:=F.2.1;omega,by have:=hc.1.2.2;omega⟩
      have hres:=K.resume m hm (meAt f k) h2.objs.length v fr'
      unfold callA
      simp only
      cases hs : sresume m (meAt f k) fr' v with
      | none=>exact hb
      | some fr2 =>
        refine ⟨hb,hres fr2 (hfr.mono hc.1.2.1) hc.2 hs,?_⟩
        unfold sresume at hs
        split at hs
        · cases hs;exact hA.1
        · split at hs
          · rename_i q
            cases hs
            have:=stk_of_size (fr'.stk ++ [v])
            have:=M.stack.2
            show (fr'.stk ++ [v]).length ≤ 40
            omega
          · cases hs
theorem after_at {fr' : Sf} {o : Nat} (h1 : fr'.loc = fr.loc) (h2 : fr'.at_ = fr.at_) : after SM f m fr' o h = after SM f m fr o h:=by
  have e1 : SM.at_ fr' = SM.at_ fr:=h2
  have e2 : ∀ a,SM.caught m fr' a o = SM.caught m fr a o:=fun a=>by
    show scaught m fr' a o = scaught m fr a o
    unfold scaught on;rw [h1]
  unfold after
  rw [e1]
  simp only [e2]
def roundS (f : Fi) (input : List Int) (fuel g d : Nat) (m : Me) (fr : Sf) (a : Act Sf) : Res Vl:=match a with
  | .stop e h=>.stop e h
  | .back v h=>.ok v h
  | .go fr h=>loop SM f input fuel g d m fr h
  | .thrown o h=>(match after SM f m fr o h with
    | .go fr=>loop SM f input fuel g d m fr h
    | .thrown=>.thrown o h
    | .stuck=>.stop 6 h)
  | .call ..=>.stop 6 h0
where h0 : Hp:=⟨[],[],0,0⟩
theorem loop_actS (hs : h.steps < fuel) (hi : m.code[fr.at_]? = some i) (M : m.stack < 31) (hl : fr.stk.length ≤ 40) : loop SM f input fuel (g + 1) d m fr h = roundS f input fuel g d m fr (actS f input fuel g d m i fr { h with steps:=h.steps + 1 }):=by
  have hF:=(sstep_l (f:=f) (input:=input) (i:=i) (h:={ h with steps:=h.steps + 1 }) (fr:=fr) M hl).2
  by_cases hc : ∃ k args fr' h',sstep f input m i fr { h with steps:=h.steps + 1 } = .call k args fr' h'
  · obtain ⟨k,args,fr',h',hst⟩:=hc
    rw [hst] at hF
    have e:=loop_call SM f input fuel g d m fr h hs hi hst
    rw [e]
    unfold actS
    rw [hst]
    simp only
    cases call SM f input fuel g d (meAt f k) args h' with
    | stop e h2=>rfl
    | thrown o h2 =>
      show _ = (match after SM f m fr o h2 with | .go fr=>loop SM f input fuel g d m fr h2 | .thrown=>.thrown o h2 | .stuck=>.stop 6 h2)
      simp only
      rw [after_at hF.1 hF.2]
      cases after SM f m fr o h2 <;> rfl
    | ok v h2 =>
      have e3 : SM.resume m (meAt f k) fr' v = sresume m (meAt f k) fr' v:=rfl
      simp only [callA,e3]
      cases sresume m (meAt f k) fr' v <;> rfl
  · have e : loop SM f input fuel (g + 1) d m fr h = roundS f input fuel g d m fr (sstep f input m i fr { h with steps := h.steps + 1 }) := by
      rw [loop,if_neg (by omega)]
      have ea : m.code[SM.at_ fr]? = some i:=hi
      rw [ea]
      have es : SM.step f input m i fr { h with steps:=h.steps + 1 } = sstep f input m i fr { h with steps:=h.steps + 1 }:=rfl
      simp only [es]
      cases hst : sstep f input m i fr { h with steps:=h.steps + 1 } with
      | stop e h2=>rfl
      | back v h2=>rfl
      | go fr' h2=>rfl
      | thrown o h2 =>
        simp only [roundS]
        cases after SM f m fr o h2 <;> rfl
      | call k args fr' h'=>exact absurd ⟨k,args,fr',h',hst⟩ hc
    rw [e]
    congr 1
    unfold actS
    split
    · rename_i hst;exact absurd ⟨_,_,_,_,hst⟩ hc
    · rfl
end
end Run
end Go.Proofs.Ytncmhenfgbcihab
namespace Go.Proofs.Ytncmhenfgbcihab
open Go.RowKit
set_option linter.unusedVariables false
set_option linter.unusedSimpArgs false
namespace Run
open D Num
def Fm (f : Fi) (input : List Int) (fuel : Nat) (h0 h : Hp) : Prop:=HpOk f.classes input fuel h ∧ h0.objs.length ≤ h.objs.length ∧ h0.steps ≤ h.steps
theorem Fm.trans {f : Fi} {input : List Int} {fuel : Nat} {a b c : Hp} (h : Fm f input fuel a b) (k : Fm f input fuel b c) : Fm f input fuel a c:=⟨k.1,Nat.le_trans h.2.1 k.2.1,Nat.le_trans h.2.2 k.2.2⟩
theorem Fm.of_from {f : Fi} {input : List Int} {fuel : Nat} {a b : Hp} (h : From f.classes input fuel a b) : Fm f input fuel a b:=⟨h.1,h.2.1,by rw [h.2.2];exact Nat.le_refl _⟩
def OutOk {Fr : Type} (FrOk : Me → Nat → Fr → Prop) (f : Fi) (input : List Int) (fuel : Nat) (m : Me) (h0 : Hp) : Out Fr → Prop
  | .go fr h=>Fm f input fuel h0 h ∧ FrOk m h.objs.length fr
  | .back v h=>Fm f input fuel h0 h ∧ RetOk m h.objs.length v
  | .thrown o h=>Fm f input fuel h0 h ∧ o < h.objs.length
  | .stop _ h=>Fm f input fuel h0 h
theorem outA_ok {Fr : Type} {M : Mach Fr} {FrOk : Me → Nat → Fr → Prop} {f : Fi} {input : List Int} {fuel g d : Nat} {m : Me} {h0 : Hp} (K : MachOk M FrOk f input fuel) (hm : m ∈ f.methods) {a : Act Fr} (ha : ActOk FrOk f input fuel m h0 a) : OutOk FrOk f input fuel m h0 (outA M f input fuel g d m a):=by
  cases a with
  | go fr h=>exact ⟨.of_from ha.1,ha.2⟩
  | back v h=>exact ⟨.of_from ha.1,ha.2⟩
  | thrown o h=>exact ⟨.of_from ha.1,ha.2⟩
  | stop e h=>exact Fm.of_from ha
  | call k args fr h =>
    obtain ⟨F,hfr,hv,hal,hk⟩:=ha
    have hc:=call_ok K g d (meAt f k) args h (meAt_mem hk) F.1 hv hal
    simp only [outA]
    revert hc
    generalize call M f input fuel g d (meAt f k) args h = r
    intro hc
    cases r with
    | stop e h2=>exact (Fm.of_from F).trans hc
    | thrown o h2=>exact ⟨(Fm.of_from F).trans hc.1,hc.2⟩
    | ok v h2 =>
      simp only [outC]
      cases hr : M.resume m (meAt f k) fr v with
      | none=>exact (Fm.of_from F).trans hc.1
      | some fr2=>exact ⟨(Fm.of_from F).trans hc.1,K.resume m hm _ _ _ _ _ (K.mono _ _ _ _ hc.1.2.1 hfr) hc.2 hr⟩
def SfB (m : Me) (n : Nat) (fr : Sf) : Prop:=SfOk m n fr ∧ fr.stk.length ≤ 40
theorem smB_ok {f : Fi} {input : List Int} {fuel : Nat} (S : FiS f) (hn : ∀ m ∈ f.methods,∀ i ∈ m.code,Ok i.n) (hin : ∀ x ∈ input,Ok x) : MachOk SM SfB f input fuel:=by
  have K:=sm_ok (fuel:=fuel) S hn hin
  refine ⟨K.may,fun m hm i hi fr h H ho hf=>?_,fun m hm n args hv hl hk=>⟨K.enter m hm n args hv hl hk,by show (List.length ([] : List Vl)) ≤ 40;simp⟩,fun m hm callee n v fr fr' hf hv hr=>⟨K.resume m hm callee n v fr fr' hf.1 hv hr,?_⟩,fun m hm n o a fr fr' ho hn hf hc=>⟨K.caught m hm n o a fr fr' ho hn hf.1 hc,?_⟩,fun m n n' fr hn hf=>⟨K.mono m n n' fr hn hf.1,hf.2⟩⟩
  · have h1:=K.step m hm i hi fr h H ho hf.1
    have h2 : ActL (SM.step f input m i fr h):=(sstep_l (f:=f) (input:=input) (i:=i) (h:=h) (S.mes m hm).stack.2 hf.2).1
    revert h1 h2
    generalize SM.step f input m i fr h = a
    intro h1 h2
    cases a with
    | go fr' h'=>exact ⟨h1.1,h1.2,h2⟩
    | back v h'=>exact h1
    | thrown o h'=>exact h1
    | stop e h'=>exact h1
    | call k args fr' h'=>exact ⟨h1.1,⟨h1.2.1,h2⟩,h1.2.2⟩
  · have hb:=(S.mes m hm).stack.2
    change sresume m callee fr v = some fr' at hr
    unfold sresume at hr
    split at hr
    · injection hr with hr;subst hr;exact hf.2
    · split at hr
      · rename_i q
        injection hr with hr;subst hr
        have:=stk_of_size (fr.stk ++ [v])
        show (fr.stk ++ [v]).length ≤ 40
        omega
      · cases hr
  · change scaught m fr a o = some fr' at hc
    unfold scaught at hc
    split at hc
    · injection hc with hc;subst hc;show (List.length [_]) ≤ 40;simp
    · cases hc
end Run
end Go.Proofs.Ytncmhenfgbcihab
namespace Go.Proofs.Ytncmhenfgbcihab
open Go.RowKit
set_option linter.unusedSimpArgs false
set_option linter.unusedVariables false
namespace Hpw
open Num Rd D Run Mem HierW
structure PS where
  cb : Nat
  lb : Nat
  vp : Value
  vc : Value
  vh : Value
def mcs (P : PS) (m : Me) : List Value:=[P.vp,.int .i64 m.ret.kind,.int .i64 m.ret.cls,.int .i64 m.stack,.int .i64 m.locals,.int .i64 m.regs,P.vc,P.vh]
def fcs (E : Ev) (P : PS) (m : Me) (fr : Sf) (vs : Value) : List Value:=.pointer (some ⟨E.hb,0,none⟩) :: (mcs P m ++ [.slice (some ⟨P.lb,0,none⟩) fr.loc.length fr.loc.length,vs,.int .i64 fr.at_])
def fo (E : Ev) (L : Lay) (P : PS) (vs : Value) (k : Nat) : Prop:=own E L k ∨ k = P.cb ∨ k = P.lb ∨ vs.ownBlock = some k
structure Mi (E : Ev) (w : World) (P : PS) (m : Me) : Prop where
  ps : Sl 2 ETy w E.B P.vp m.params
  co : Sl 6 EIns w E.B P.vc m.code
  hs : Sl 4 EHd w E.B P.vh m.handlers
  ok : Ok m.ret.kind ∧ Ok m.ret.cls ∧ Ok m.stack ∧ Ok m.locals ∧ Ok m.regs
theorem Mi.mono {E : Ev} {w w' : World} {P : PS} {m : Me} (M : Mi E w P m) (hb : Below E.B w w') : Mi E w' P m :=
  ⟨M.ps.mono mTy hb (Nat.le_refl _),M.co.mono mIns hb (Nat.le_refl _),M.hs.mono mHd hb (Nat.le_refl _),M.ok⟩
structure ST (E : Ev) (w : World) (L : Lay) (P : PS) (m : Me) (d : Nat) (h : Hp) (fr : Sf) (vs : Value) : Prop where
  H : PH E w L h d
  M : Mi E w P m
  blk : Blk w P.cb (fcs E P m fr vs)
  loc : Blk w P.lb (vcells fr.loc)
  lbw : P.lb < w.heap.size
  stk : w.ownsRow E.B 118 2 vs fr.stk.length (vcells fr.stk)
  lo : E.B ≤ P.cb ∧ E.B ≤ P.lb
  far : ¬ own E L P.cb ∧ ¬ own E L P.lb ∧ ∀ g,vs.ownBlock = some g → ¬ own E L g
  ne : P.cb ≠ P.lb ∧ vs.ownBlock ≠ some P.cb ∧ vs.ownBlock ≠ some P.lb
def LftF (E : Ev) (L : Lay) (P : PS) (m : Me) (d : Nat) (vs : Value) (w w' : World) (h : Hp) (fr : Sf) : Prop :=
  ∃ L' vs',Kp (fo E L P vs) w w' ∧ (∀ k,own E L' k → own E L k ∨ w.heap.size ≤ k) ∧ (∀ k,vs'.ownBlock = some k → vs.ownBlock = some k ∨ w.heap.size ≤ k) ∧ ST E w' L' P m d h fr vs'
def LftS (E : Ev) (L : Lay) (P : PS) (d : Nat) (vs : Value) (w w' : World) (h : Hp) : Prop :=
  ∃ L',Kp (fo E L P vs) w w' ∧ (∀ k,own E L' k → own E L k ∨ w.heap.size ≤ k) ∧ PH E w' L' h d
def PlR (E : Ev) (L : Lay) (P : PS) (m : Me) (d : Nat) (vs : Value) (fr : Sf) (V : Value) (w : World) (a : Out Sf) (e : Ending) (w' : World) : Prop:=match a with
  | .go fr' h=>e = .returned V ∧ LftF E L P m d vs w w' h ⟨fr'.loc,fr'.stk,fr.at_⟩
  | .back _ _=>False
  | .thrown o h=>Pan (thrownV o) e ∧ ∃ st,LftF E L P m d vs w w' h ⟨fr.loc,st,fr.at_⟩
  | .stop c h=>Pan (stopV c) e ∧ LftS E L P d vs w w' h
section
variable {E : Ev} {w w' w1 w2 : World} {L L' L1 : Lay} {h h' h1 h2 : Hp} {d : Nat} {P : PS} {m : Me} {fr fr' fr1 : Sf} {vs vs1 : Value}
theorem ST.cbw (S : ST E w L P m d h fr vs) : P.cb < w.heap.size:=cell_lt (S.blk 0 (by simp [fcs,mcs])).1
theorem ST.base (S : ST E w L P m d h fr vs) : E.B ≤ w.heap.size:=Nat.le_of_lt (Nat.lt_of_le_of_lt S.lo.1 S.cbw)
theorem ST.fo_lo (S : ST E w L P m d h fr vs) {k : Nat} (hk : fo E L P vs k) : E.B ≤ k ∧ k < w.heap.size:=by
  rcases hk with e | e | e | e
  · exact own_lo S.H e
  · subst e;exact ⟨S.lo.1,S.cbw⟩
  · subst e;exact ⟨S.lo.2,S.lbw⟩
  · exact World.ownsRow.lt S.stk k e
theorem ST.bel (S : ST E w L P m d h fr vs) (K : Kp (fo E L P vs) w w') : Below E.B w w':=K.below S.base (fun x hx=>(S.fo_lo hx).1)
theorem ST.c0 (S : ST E w L P m d h fr vs) : w.cell? ⟨P.cb,0,none⟩ = some (.pointer (some ⟨E.hb,0,none⟩)):=(S.blk 0 (by simp [fcs,mcs])).1
theorem ST.c1 (S : ST E w L P m d h fr vs) : w.cell? ⟨P.cb,1,none⟩ = some P.vp:=(S.blk 1 (by simp [fcs,mcs])).1
theorem ST.c2 (S : ST E w L P m d h fr vs) : w.cell? ⟨P.cb,2,none⟩ = some (.int .i64 m.ret.kind):=(S.blk 2 (by simp [fcs,mcs])).1
theorem ST.c3 (S : ST E w L P m d h fr vs) : w.cell? ⟨P.cb,3,none⟩ = some (.int .i64 m.ret.cls):=(S.blk 3 (by simp [fcs,mcs])).1
theorem ST.c4 (S : ST E w L P m d h fr vs) : w.cell? ⟨P.cb,4,none⟩ = some (.int .i64 m.stack):=(S.blk 4 (by simp [fcs,mcs])).1
theorem ST.c7 (S : ST E w L P m d h fr vs) : w.cell? ⟨P.cb,7,none⟩ = some P.vc:=(S.blk 7 (by simp [fcs,mcs])).1
theorem ST.c9 (S : ST E w L P m d h fr vs) : w.cell? ⟨P.cb,9,none⟩ = some (.slice (some ⟨P.lb,0,none⟩) fr.loc.length fr.loc.length):=(S.blk 9 (by simp [fcs,mcs])).1
theorem ST.c10 (S : ST E w L P m d h fr vs) : w.cell? ⟨P.cb,10,none⟩ = some vs:=(S.blk 10 (by simp [fcs,mcs])).1
theorem ST.c11 (S : ST E w L P m d h fr vs) : w.cell? ⟨P.cb,11,none⟩ = some (.int .i64 fr.at_):=(S.blk 11 (by simp [fcs,mcs])).1
theorem ST.fz (S : ST E w L P m d h fr vs) (k : Nat) (hk : k < 12) : w.frozen? ⟨P.cb,k,none⟩ = false:=(S.blk k (by simp [fcs,mcs];exact hk)).2
theorem ST.heap (S : ST E w L P m d h fr vs) (K : Kp (own E L) w w') (N : ∀ k,own E L' k → own E L k ∨ w.heap.size ≤ k) (H : PH E w' L' h' d) : ST E w' L' P m d h' fr vs:=by
  have hc:=S.cbw
  have hl:=S.lbw
  have far : ∀ k,k < w.heap.size → ¬ own E L k → ¬ own E L' k:=fun k hlt hn hk=>by
    rcases N k hk with q | q
    · exact hn q
    · omega
  exact ⟨H,S.M.mono (K.below S.base (fun k hk=>(own_lo S.H hk).1)),S.blk.next K S.far.1,S.loc.next K S.far.2.1,Nat.lt_of_lt_of_le hl K.size,row_keep S.stk K S.far.2.2,S.lo,⟨far _ hc S.far.1,far _ hl S.far.2.1,fun g hg=>far _ (World.ownsRow.lt S.stk g hg).2 (S.far.2.2 g hg)⟩,S.ne⟩
theorem ST.below (S : ST E w L P m d h fr vs) (hb : Below w.heap.size w w') : ST E w' L P m d h fr vs:=S.heap (kpB hb) same_own (S.H.below hb)
theorem ST.lft (S : ST E w L P m d h fr vs) (hb : Below w.heap.size w w') : LftF E L P m d vs w w' h fr:=⟨L,vs,Mem.Kp.of_below hb (Nat.le_refl _),same_own,fun _ e=>.inl e,S.below hb⟩
theorem ST.lftH (S : ST E w L P m d h fr vs) (A : Lft E L d w w' h') : LftF E L P m d vs w w' h' fr:=by
  obtain ⟨L',K,N,H⟩:=A
  exact ⟨L',vs,K.mono (fun k hk=>.inl hk),N,fun _ e=>.inl e,S.heap K N H⟩
theorem LftF.trans (A : LftF E L P m d vs w w1 h1 fr1) (B : ∀ L1 vs1,ST E w1 L1 P m d h1 fr1 vs1 → (∀ k,own E L1 k → own E L k ∨ w.heap.size ≤ k) → LftF E L1 P m d vs1 w1 w2 h2 fr) : LftF E L P m d vs w w2 h2 fr:=by
  obtain ⟨L1,vs1,K,N,V,S⟩:=A
  obtain ⟨L2,vs2,K2,N2,V2,S2⟩:=B L1 vs1 S N
  have hs:=K.size
  refine ⟨L2,vs2,K.trans K2 (fun y hy=>?_),fun k hk=>(N2 k hk).elim (N k) (fun q=>.inr (by omega)),fun k hk=>(V2 k hk).elim (V k) (fun q=>.inr (by omega)),S2⟩
  rcases hy with e | e | e | e
  · exact (N y e).imp .inl id
  · exact .inl (.inr (.inl e))
  · exact .inl (.inr (.inr (.inl e)))
  · exact (V y e).imp (fun q=>.inr (.inr (.inr q))) id
theorem LftF.transS (A : LftF E L P m d vs w w1 h1 fr1) (B : ∀ L1 vs1,ST E w1 L1 P m d h1 fr1 vs1 → (∀ k,own E L1 k → own E L k ∨ w.heap.size ≤ k) → LftS E L1 P d vs1 w1 w2 h2) : LftS E L P d vs w w2 h2:=by
  obtain ⟨L1,vs1,K,N,V,S⟩:=A
  obtain ⟨L2,K2,N2,S2⟩:=B L1 vs1 S N
  have hs:=K.size
  refine ⟨L2,K.trans K2 (fun y hy=>?_),fun k hk=>(N2 k hk).elim (N k) (fun q=>.inr (by omega)),S2⟩
  rcases hy with e | e | e | e
  · exact (N y e).imp .inl id
  · exact .inl (.inr (.inl e))
  · exact .inl (.inr (.inr (.inl e)))
  · exact (V y e).imp (fun q=>.inr (.inr (.inr q))) id
theorem LftF.stop (A : LftF E L P m d vs w w' h fr) : LftS E L P d vs w w' h:=by
  obtain ⟨L1,vs1,K,N,V,S⟩:=A
  exact ⟨L1,K,N,S.H⟩
theorem LftF.below (A : LftF E L P m d vs w w1 h fr) (hb : Below w1.heap.size w1 w2) : LftF E L P m d vs w w2 h fr:=A.trans (fun _ _ S _=>S.lft hb)
theorem LftS.below (A : LftS E L P d vs w w1 h) (hb : Below w1.heap.size w1 w2) : LftS E L P d vs w w2 h:=by
  obtain ⟨L1,K,N,S⟩:=A
  exact ⟨L1,kb K hb,N,S.below hb⟩
theorem Lft.stop (S : ST E w L P m d h fr vs) (A : Lft E L d w w' h') : LftS E L P d vs w w' h':=(S.lftH A).stop
theorem ST.setStackE (S : ST E w L P m d h fr vs) {v2 : Value} {st : List Vl} (K : Kp (fun k => vs.ownBlock = some k) w w2) (R : w2.ownsRow E.B 118 2 v2 st.length (vcells st)) (N : ∀ g, v2.ownBlock = some g → vs.ownBlock = some g ∨ w.heap.size ≤ g) :
    Kp (fo E L P vs) w (w2.setCell ⟨P.cb,10,none⟩ v2) ∧ ST E (w2.setCell ⟨P.cb,10,none⟩ v2) L P m d h ⟨fr.loc,st,fr.at_⟩ v2:=by
  have hcb:=S.cbw
  have hlb:=S.lbw
  have K2 : Kp (fun k=>k = P.cb) w2 (w2.setCell ⟨P.cb,10,none⟩ v2):=Kp.setCell (Kp.refl (fun k=>k = P.cb) w2) (p:=⟨P.cb,10,none⟩) (.inl rfl) v2
  have KX : Kp (fun k=>vs.ownBlock = some k ∨ k = P.cb) w (w2.setCell ⟨P.cb,10,none⟩ v2):=(K.mono (fun k hk=>.inl hk)).trans K2 (fun y e=>.inl (.inr e))
  have ncb : v2.ownBlock ≠ some P.cb:=fun e=>(N _ e).elim S.ne.2.1 (fun q=>by omega)
  have nlb : v2.ownBlock ≠ some P.lb:=fun e=>(N _ e).elim S.ne.2.2 (fun q=>by omega)
  refine ⟨KX.mono (fun k hk=>hk.elim (fun e=>.inr (.inr (.inr e))) (fun e=>.inr (.inl e))),?_⟩
  refine ⟨S.H.keep KX (fun k hk=>?_),S.M.mono (KX.below S.base (fun k hk=>?_)),?_,S.loc.next KX (fun e=>e.elim S.ne.2.2 (fun e=>S.ne.1 e.symm)),Nat.lt_of_lt_of_le hlb KX.size,row_keep R K2 (fun g hg e=>ncb (e ▸ hg)),S.lo,⟨S.far.1,S.far.2.1,fun g hg=>?_⟩,⟨S.ne.1,ncb,nlb⟩⟩
  · rcases hk with e | e
    · exact ⟨(World.ownsRow.lt S.stk k e).1,S.far.2.2 k e⟩
    · subst e;exact ⟨S.lo.1,S.far.1⟩
  · rcases hk with e | e
    · exact (World.ownsRow.lt S.stk k e).1
    · subst e;exact S.lo.1
  · have B2 : Blk w2 P.cb (fcs E P m fr vs):=S.blk.next K (fun e=>S.ne.2.1 e)
    exact B2.set 10 (by simp [fcs,mcs]) v2
  · rcases N g hg with e | e
    · exact S.far.2.2 g e
    · exact (fresh_b S.H e).2
theorem ST.setStack (S : ST E w L P m d h fr vs) {v2 : Value} {st : List Vl} (K : Kp (fun k => vs.ownBlock = some k) w w2) (R : w2.ownsRow E.B 118 2 v2 st.length (vcells st)) (N : ∀ g, v2.ownBlock = some g → vs.ownBlock = some g ∨ w.heap.size ≤ g) :
    LftF E L P m d vs w (w2.setCell ⟨P.cb,10,none⟩ v2) h ⟨fr.loc,st,fr.at_⟩ :=
  ⟨L,v2,(S.setStackE K R N).1,same_own,N,(S.setStackE K R N).2⟩
theorem ST.setAt (S : ST E w L P m d h fr vs) (a : Nat) : LftF E L P m d vs w (w.setCell ⟨P.cb,11,none⟩ (.int .i64 a)) h ⟨fr.loc,fr.stk,a⟩:=by
  have K : Kp (fun k=>k = P.cb) w (w.setCell ⟨P.cb,11,none⟩ (.int .i64 a)):=Kp.setCell (Kp.refl (fun k=>k = P.cb) w) (p:=⟨P.cb,11,none⟩) (.inl rfl) _
  refine ⟨L,vs,K.mono (fun k e=>.inr (.inl e)),same_own,fun _ e=>.inl e,?_⟩
  exact ⟨S.H.keep K (fun k e=>by subst e;exact ⟨S.lo.1,S.far.1⟩),S.M.mono (K.below S.base (fun k e=>by subst e;exact S.lo.1)),S.blk.set 11 (by simp [fcs,mcs]) _,S.loc.next K (fun e=>S.ne.1 e.symm),Nat.lt_of_lt_of_le S.lbw K.size,row_keep S.stk K (fun g hg e=>S.ne.2.1 (e ▸ hg)),S.lo,S.far,S.ne⟩
theorem ST.setLoc (S : ST E w L P m d h fr vs) {l : List Vl} (hl : l.length = fr.loc.length) (K : Kp (fun k=>k = P.lb) w w') (B : Blk w' P.lb (vcells l)) : LftF E L P m d vs w w' h ⟨l,fr.stk,fr.at_⟩:=by
  refine ⟨L,vs,K.mono (fun k e=>.inr (.inr (.inl e))),same_own,fun _ e=>.inl e,?_⟩
  refine ⟨S.H.keep K (fun k e=>by subst e;exact ⟨S.lo.2,S.far.2.1⟩),S.M.mono (K.below S.base (fun k e=>by subst e;exact S.lo.2)),?_,B,Nat.lt_of_lt_of_le S.lbw K.size,row_keep S.stk K (fun g hg e=>S.ne.2.2 (e ▸ hg)),S.lo,S.far,S.ne⟩
  have:=S.blk.next K S.ne.1
  unfold fcs at this ⊢
  rw [hl]
  exact this
theorem PlR.after (A : LftF E L P m d vs w w1 h1 fr1) (hl : fr1.loc = fr.loc) (ha : fr1.at_ = fr.at_) {V : Value} {a : Out Sf} {e : Ending} (B : ∀ L1 vs1,ST E w1 L1 P m d h1 fr1 vs1 → (∀ k,own E L1 k → own E L k ∨ w.heap.size ≤ k) → PlR E L1 P m d vs1 fr1 V w1 a e w2) : PlR E L P m d vs fr V w a e w2:=by
  obtain ⟨L1,vs1,K,N,W,S⟩:=id A
  cases a with
  | go fr' h' =>
    have B':=fun L1 vs1 S N=>(B L1 vs1 S N).2
    rw [ha] at B'
    exact ⟨(B L1 vs1 S N).1,A.trans B'⟩
  | back v h'=>exact B L1 vs1 S N
  | thrown o h' =>
    obtain ⟨hp,st,hx⟩:=B L1 vs1 S N
    rw [hl,ha] at hx
    obtain ⟨L2,vs2,K2,N2,V2,S2⟩:=hx
    refine ⟨hp,st,?_⟩
    have hs:=K.size
    refine ⟨L2,vs2,K.trans K2 (fun y hy=>?_),fun k hk=>(N2 k hk).elim (N k) (fun q=>.inr (by omega)),fun k hk=>(V2 k hk).elim (W k) (fun q=>.inr (by omega)),S2⟩
    rcases hy with e | e | e | e
    · exact (N y e).imp .inl id
    · exact .inl (.inr (.inl e))
    · exact .inl (.inr (.inr (.inl e)))
    · exact (W y e).imp (fun q=>.inr (.inr (.inr q))) id
  | stop c h'=>exact ⟨(B L1 vs1 S N).1,A.transS (fun L1 vs1 S N=>(B L1 vs1 S N).2)⟩
end
end Hpw
end Go.Proofs.Ytncmhenfgbcihab
