/- Parts of the proof: Rd4. -/
import Derived.Test.YtncmhenfgbcihabG10
import Derived.Deep.AppendLies
import Derived.Deep.RegionLaw
import Derived.BigRegion
namespace Go.Proofs.Ytncmhenfgbcihab
open Go.RowKit
set_option linter.unusedSimpArgs false
set_option linter.unusedVariables false
namespace Rhw
open Num Rd D Run Mem HierW Hpw
section
variable {E : Ev} {w w' : World} {L L' : RL} {h h' : Hp} {d : Nat} {s : Sv} {P : Pl} {m : Me} {fr : Sf} {vs : Value}
theorem VS.of_row {base : Nat} {T : TypeId} {X : Nat → Prop} {v : Value} {l : List Vl} (H : w.ownsRow base T 2 v l.length (vcells l)) (hX : ∀ k,X k → k < base) : VS w X v l:=by
  by_cases h0 : 0 < l.length
  · obtain ⟨g,cap,hv,c1,c2,c3,c4⟩:=row_form H h0
    rw [hv] at H ⊢
    refine ⟨_,cap,rfl,c1,c2,fun i hi=>⟨g,0,rfl,fun hx=>by have:=hX g hx;omega,?_,?_⟩⟩
    · have:=row_cell H (vcells_get l i hi).1
      rw [Nat.zero_add,this,List.getD_eq_getElem?_getD,List.getElem?_eq_getElem hi];rfl
    · have:=row_cell H (vcells_get l i hi).2
      rw [Nat.zero_add,this,List.getD_eq_getElem?_getD,List.getElem?_eq_getElem hi];rfl
  · have hl : l = []:=List.eq_nil_of_length_eq_zero (by omega)
    subst hl
    obtain ⟨a,cap,hv⟩:=row_any H
    rcases H.2 with ⟨hn,_⟩ | ⟨g,cap',cur,hv',_,_,_,hm,_⟩
    · rw [hn];exact VS.nil _ _
    · rw [hv'];exact VS.zero (by unfold maxLen at hm;exact hm)
theorem row0 {base b : Nat} {T : TypeId} (hb : base ≤ b) (h : w.heap[b]? = some (.cells #[] T (0,0))) : w.ownsRow base T 2 (.slice (some ⟨b,0,none⟩) 0 0) 0 [] :=
  ⟨rfl,.inr ⟨b,0,#[],rfl,hb,h,Nat.le_refl _,by unfold maxLen;omega,rfl,rfl⟩⟩
theorem news_vs {b o : Nat} {l : List Vl} (h : ∀ i (hi : i < l.length),w.cell? ⟨b,o + i * 2,none⟩ = some (.int .i64 l[i].kind) ∧ w.cell? ⟨b,o + i * 2 + 1,none⟩ = some (.int .i64 l[i].n)) {W : World} (hb : Below w.heap.size w W) : ∀ j u,(vcells l)[j]? = some u → W.cell? ((⟨b,o,none⟩ : Addr).add j) = some u:=fun j u hj=>by
  have hadd : (⟨b,o,none⟩ : Addr).add j = ⟨b,o + j,none⟩:=by unfold Addr.add;split <;> simp_all
  rw [hadd]
  have hl : j < l.length * 2:=by rw [← vcells_len];exact (List.getElem?_eq_some_iff.1 hj).1
  have hi : j / 2 < l.length:=by omega
  obtain ⟨z0,z1⟩:=h (j / 2) hi
  obtain ⟨g0,g1⟩:=vcells_get l (j / 2) hi
  rcases (show j = j / 2 * 2 ∨ j = j / 2 * 2 + 1 by omega) with e | e
  · rw [e] at hj ⊢
    rw [g0] at hj
    rw [← hj,kept hb (cell_lt z0) z0,List.getD_eq_getElem?_getD,List.getElem?_eq_getElem hi];rfl
  · rw [e] at hj ⊢
    rw [g1] at hj
    rw [← hj,show o + (j / 2 * 2 + 1) = o + j / 2 * 2 + 1 by omega,kept hb (cell_lt z1) z1,List.getD_eq_getElem?_getD,List.getElem?_eq_getElem hi];rfl
theorem one_vcells (l : List Vl) : ∀ u ∈ vcells l,u.oneCell' = true:=by
  intro u hu
  simp only [vcells,List.mem_flatMap,vcell] at hu
  obtain ⟨v,_,hu⟩:=hu
  rcases List.mem_cons.1 hu with e | e
  · subst e;rfl
  · rcases List.mem_cons.1 e with e | e
    · subst e;rfl
    · cases e
theorem szA (w : World) (A B : Obj) : (((w.alloc A).alloc B).drew).heap.size = w.heap.size + 1 + 1:=by simp [World.drew]
theorem szB (w : World) (A B C : Obj) : ((((w.alloc A).alloc B).alloc C).drew).heap.size = w.heap.size + 1 + 1 + 1:=by simp [World.drew]
theorem heap_new' {W : World} {o : Obj} {b : Nat} (h : b = W.heap.size) : (W.alloc o).heap[b]? = some o:=by
  subst h
  show (W.heap.push o)[W.heap.size]? = some o
  rw [Array.getElem?_push_size]
theorem heap_old' {W : World} {o x : Obj} {b : Nat} (h : W.heap[b]? = some x) : (W.alloc o).heap[b]? = some x:=by
  rw [Below.heap_alloc _ _ _ (Array.getElem?_eq_some_iff.1 h).1];exact h
theorem news2 {W : World} {b : Nat} {x y : Value} (h0 : W.cell? ⟨b,0,none⟩ = some x) (h1 : W.cell? ⟨b,1,none⟩ = some y) : ∀ j u,([x,y] : List Value)[j]? = some u → W.cell? ((⟨b,0,none⟩ : Addr).add j) = some u:=fun j u hj=>by
  have hadd : (⟨b,0,none⟩ : Addr).add j = ⟨b,j,none⟩:=by unfold Addr.add;split <;> simp_all
  rw [hadd]
  rcases j with _ | _ | j
  · simp at hj;rw [← hj];exact h0
  · simp at hj;rw [← hj];exact h1
  · simp at hj
theorem grown_below {B n size : Nat} {T : TypeId} {v : Value} {xs : List Value} {w W w2 : World} (hB : B ≤ W.heap.size) (hW : Below B w W) (hown : W.ownsRow B T size v n xs) (hg : W.grownBy w2 v.ownBlock) : Below B w w2 :=
  ⟨hg.os.trans hW.os,hg.tape.trans hW.tape,hg.output.trans hW.output,Nat.le_trans hW.size hg.size,fun k hk =>
    (hg.block k (by omega) (fun e=>by have:=(World.ownsRow.lt hown k e.symm).1;omega)).trans (hW.block k hk)⟩
theorem grown_cell {W w2 : World} {b8 : Nat} {n c : Nat} (hg : W.grownBy w2 (Value.slice (some ⟨b8,0,none⟩) n c).ownBlock) {b o : Nat} {u : Value} (hne : b ≠ b8) (h : W.cell? ⟨b,o,none⟩ = some u) : w2.cell? ⟨b,o,none⟩ = some u :=
  (Kp.of_grown (X:=fun k=>k = b8) hg (fun k e=>by simp [Value.ownBlock] at e;exact e.symm)).cell h hne
def putS (s : Sv) (st : List Vl) (m : Me) : Sv:=if s.over then s else if (size st : Int) ≤ m.stack then s else Sv.ends 6
theorem putS_run (st : List Vl) (m : Me) : putS Sv.run st m = if (size st : Int) ≤ m.stack then Sv.run else Sv.ends 6:=rfl
def PutR (E : Ev) (L : RL) (P : Pl) (m : Me) (h : Hp) (d : Nat) (s : Sv) (fr : Sf) (w : World) (e : Ending) (w' : World) : Prop :=
  ∃ vs',e = .returned (.tuple #[]) ∧ Fr E w' L P m fr vs' ∧ RH E w' L h d s ∧ Kp (KX E L P) w w'
theorem stopsF (H : RH E w L h d s) (hs : (s.over || decide (0 ≤ s.thrown)) = false) : Calls Try.prog 156 #[.pointer (some ⟨E.hb,0,none⟩)] w fun r w'=>r = .returned (.bool false) ∧ w = w':=by
  have:=stops H;rw [hs] at this;exact this
theorem stopsO (H : RH E w L h d s) (hs : (s.over || decide (0 ≤ s.thrown)) = true) : Calls Try.prog 156 #[.pointer (some ⟨E.hb,0,none⟩)] w fun r w'=>r = .returned (.bool true) ∧ w = w':=by
  have:=stops H;rw [hs] at this;exact this
set_option maxRecDepth 100000 in
set_option maxHeartbeats 8000000 in
theorem putN (H : RH E w L h d s) (hs : s = Sv.run ∨ ∃ c, s = Sv.ends c) (F : Fr E w L P m fr vs) (v : Vl) (h0 : 0 < fr.stk.length) (h1000 : fr.stk.length ≤ 900) :
    Calls Try.prog 109 #[.pointer (some ⟨E.hb,0,none⟩),.pointer (some ⟨P.cb,0,none⟩),.agg #[.int .i64 v.kind,.int .i64 v.n]] w (PutR E L P m h d (putS s (fr.stk ++ [v]) m) ⟨fr.loc,fr.stk ++ [v],fr.at_⟩ w):=by
  obtain ⟨io,hi',hy0,hy1,hy2⟩:=info_parts info_val
  have HH:=Lib.hid H
  have HF:=Lib.hid F
  have c9:=F.c9
  have f9:=F.fz 9 (by decide)
  have hcb:=F.cbw
  have hcb1 : P.cb < w.heap.size + 1:=by omega
  have hcb2 : P.cb < w.heap.size + 1 + 1:=by omega
  have hcb3 : P.cb < w.heap.size + 1 + 1 + 1:=by omega
  have hfx : Hid (∀ k,FX E L P k → k < w.heap.size):=fun k hk=>by
    rcases hk with (hk | hk | hk) | hk
    · exact (own_lo H.rows hk).2
    · rw [hk];exact F.cbw
    · rw [hk];exact F.lbw
    · exact F.zlt k hk
  obtain ⟨sb,so,scap,rfl,k1,k2,hsb,_,hel⟩:=F.stk.form h0
  replace hel:=Lib.hid hel
  have hvl:=vcells_len fr.stk
  replace hvl:=Lib.hid hvl
  clear H F
  go_enter Try.func109,Try.ntmps109
  go_wp2
  go_region_law ((first | (refine step_append_lies _ rfl (.tmp 8) (.tmp 12) 100 rfl w.heap.size 104 io (.agg #[.int .i64 0,.int .i64 0]) 2 16 Try.underlying100 hi' hy0 hy1 hy2 rfl (by decide) _ 0 [] (by rfl) (by refine row0 (by first | omega | (simp;omega)) ?_;repeat (first | exact heap_new' (by simp) | refine heap_old' ?_)) ⟨sb,so,none⟩ fr.stk.length scap (vcells fr.stk) (by simp [Act.eval,Act.put]) hvl.out (by exact news_vs hel.out (by exact Rd.byB)) (one_vcells _) h0 (by unfold maxLen;omega) (by omega) (by simp;omega) _ (szA w _ (.cells #[] 104)) ?_;intro g2 cap2 w3 hown3 hgrow3 hat3 hlt3;simp only [Nat.zero_add,List.nil_append] at hown3;have HB3:=Lib.hid (grown_below (B:=w.heap.size) (w:=w) (by first | omega | (simp;omega)) (by exact Rd.byB) (row0 (T:=104) (by first | omega | (simp;omega)) (by repeat (first | exact heap_new' (by simp) | refine heap_old' ?_))) hgrow3);have x0:=grown_cell hgrow3 (b:=w.heap.size) (o:=0) (u:=.int .i64 v.kind) (by omega) (by go_simp);have x1:=grown_cell hgrow3 (b:=w.heap.size) (o:=1) (u:=.int .i64 v.n) (by omega) (by go_simp);have c9':=kept HB3.out hcb c9;have hsz3:=HB3.out.size;replace hown3:=Lib.hid hown3;clear hgrow3 hat3) | (refine step_append_lies _ rfl (.tmp 8) (.tmp 12) 100 rfl w.heap.size 104 io (.agg #[.int .i64 0,.int .i64 0]) 2 16 Try.underlying100 hi' hy0 hy1 hy2 rfl (by decide) _ 0 [] (by rfl) (by refine row0 (by first | omega | (simp;omega)) ?_;repeat (first | exact heap_new' (by simp) | refine heap_old' ?_)) ⟨sb,so,none⟩ fr.stk.length scap (vcells fr.stk) (by simp [Act.eval,Act.put]) hvl.out (by exact news_vs hel.out (by exact Rd.byB)) (one_vcells _) h0 (by unfold maxLen;omega) (by omega) (by simp;omega) _ (szB w _ (.cells #[] 104) (.cells #[.int .i64 v.kind,.int .i64 v.n] 104)) ?_;intro g2 cap2 w3 hown3 hgrow3 hat3 hlt3;simp only [Nat.zero_add,List.nil_append] at hown3;have HB3:=Lib.hid (grown_below (B:=w.heap.size) (w:=w) (by first | omega | (simp;omega)) (by exact Rd.byB) (row0 (T:=104) (by first | omega | (simp;omega)) (by repeat (first | exact heap_new' (by simp) | refine heap_old' ?_))) hgrow3);have x0:=grown_cell hgrow3 (b:=w.heap.size) (o:=0) (u:=.int .i64 v.kind) (by omega) (by go_simp);have x1:=grown_cell hgrow3 (b:=w.heap.size) (o:=1) (u:=.int .i64 v.n) (by omega) (by go_simp);have p2:=grown_cell hgrow3 (b:=w.heap.size + 1 + 1) (o:=0) (u:=.int .i64 v.kind) (by omega) (by go_simp);have p3:=grown_cell hgrow3 (b:=w.heap.size + 1 + 1) (o:=1) (u:=.int .i64 v.n) (by omega) (by go_simp);have c9':=kept HB3.out hcb c9;have hsz3:=HB3.out.size;replace hown3:=Lib.hid hown3;clear hgrow3 hat3) | (refine step_append_lies _ rfl (.tmp 8) (.tmp 12) 100 rfl w.heap.size 104 io (.agg #[.int .i64 0,.int .i64 0]) 2 16 Try.underlying100 hi' hy0 hy1 hy2 rfl (by decide) _ 0 [] (by rfl) (by refine row0 (by first | omega | (simp;omega)) ?_;repeat (first | exact heap_new' (by simp) | refine heap_old' ?_)) ⟨sb,so,none⟩ fr.stk.length scap (vcells fr.stk) (by simp [Act.eval,Act.put]) hvl.out (by exact news_vs hel.out (by exact Rd.byB)) (one_vcells _) h0 (by unfold maxLen;omega) (by omega) (by simp;omega) _ (szB w _ (.cells #[.int .i64 v.kind,.int .i64 v.n] 104) (.cells #[] 104)) ?_;intro g2 cap2 w3 hown3 hgrow3 hat3 hlt3;simp only [Nat.zero_add,List.nil_append] at hown3;have HB3:=Lib.hid (grown_below (B:=w.heap.size) (w:=w) (by first | omega | (simp;omega)) (by exact Rd.byB) (row0 (T:=104) (by first | omega | (simp;omega)) (by repeat (first | exact heap_new' (by simp) | refine heap_old' ?_))) hgrow3);have x0:=grown_cell hgrow3 (b:=w.heap.size) (o:=0) (u:=.int .i64 v.kind) (by omega) (by go_simp);have x1:=grown_cell hgrow3 (b:=w.heap.size) (o:=1) (u:=.int .i64 v.n) (by omega) (by go_simp);have p0:=grown_cell hgrow3 (b:=w.heap.size + 1) (o:=0) (u:=.int .i64 v.kind) (by omega) (by go_simp);have p1:=grown_cell hgrow3 (b:=w.heap.size + 1) (o:=1) (u:=.int .i64 v.n) (by omega) (by go_simp);have c9':=kept HB3.out hcb c9;have hsz3:=HB3.out.size;replace hown3:=Lib.hid hown3;clear hgrow3 hat3) | (refine step_append_lies _ rfl (.tmp 13) (.tmp 15) 100 rfl w.heap.size 104 io (.agg #[.int .i64 0,.int .i64 0]) 2 16 Try.underlying100 hi' hy0 hy1 hy2 rfl (by decide) _ fr.stk.length (vcells fr.stk) (by rfl) (by repeat (first | exact hown3.out | refine row_alloc ?_ _ | refine row_drew ?_)) ⟨_,0,none⟩ 1 1 [.int .i64 v.kind,.int .i64 v.n] (by rfl) rfl (news2 p2 p3) (by simp [Value.oneCell']) (by decide) (by unfold maxLen;omega) (by omega) (by first | omega | (simp;omega)) _ rfl ?_;intro g4 cap4 w4 hown4 hgrow4 hat4 hlt4;have HB4:=Lib.hid (grown_below (B:=w.heap.size) (w:=w) (by first | omega | (simp;omega)) (Below.trans HB3.out (by exact Rd.byB)) (show World.ownsRow _ w.heap.size 104 2 _ (fr.stk.length) (vcells fr.stk) by repeat (first | exact hown3.out | refine row_alloc ?_ _ | refine row_drew ?_)) hgrow4);have c9'':=kept HB4.out hcb c9;have f9'':=(kpB (X:=fun _=>False) HB4.out).frz f9 hcb (fun e=>e);replace hown4:=Lib.hid hown4;clear hgrow4 hat4) | (refine step_append_lies _ rfl (.tmp 13) (.tmp 15) 100 rfl w.heap.size 104 io (.agg #[.int .i64 0,.int .i64 0]) 2 16 Try.underlying100 hi' hy0 hy1 hy2 rfl (by decide) _ fr.stk.length (vcells fr.stk) (by rfl) (by repeat (first | exact hown3.out | refine row_alloc ?_ _ | refine row_drew ?_)) ⟨_,0,none⟩ 1 1 [.int .i64 v.kind,.int .i64 v.n] (by rfl) rfl (news2 p0 p1) (by simp [Value.oneCell']) (by decide) (by unfold maxLen;omega) (by omega) (by first | omega | (simp;omega)) _ rfl ?_;intro g4 cap4 w4 hown4 hgrow4 hat4 hlt4;have HB4:=Lib.hid (grown_below (B:=w.heap.size) (w:=w) (by first | omega | (simp;omega)) (Below.trans HB3.out (by exact Rd.byB)) (show World.ownsRow _ w.heap.size 104 2 _ (fr.stk.length) (vcells fr.stk) by repeat (first | exact hown3.out | refine row_alloc ?_ _ | refine row_drew ?_)) hgrow4);have c9'':=kept HB4.out hcb c9;have f9'':=(kpB (X:=fun _=>False) HB4.out).frz f9 hcb (fun e=>e);replace hown4:=Lib.hid hown4;clear hgrow4 hat4) | (refine step_append_lies _ rfl (.tmp 13) (.tmp 15) 100 rfl w.heap.size 104 io (.agg #[.int .i64 0,.int .i64 0]) 2 16 Try.underlying100 hi' hy0 hy1 hy2 rfl (by decide) _ fr.stk.length (vcells fr.stk) (by rfl) (by repeat (first | exact hown3.out | refine row_alloc ?_ _ | refine row_drew ?_)) ⟨_,0,none⟩ 1 1 [.int .i64 v.kind,.int .i64 v.n] (by rfl) rfl (by exact news2 (by go_simp) (by go_simp)) (by simp [Value.oneCell']) (by decide) (by unfold maxLen;omega) (by omega) (by first | omega | (simp;omega)) _ rfl ?_;intro g4 cap4 w4 hown4 hgrow4 hat4 hlt4;have HB4:=Lib.hid (grown_below (B:=w.heap.size) (w:=w) (by first | omega | (simp;omega)) (Below.trans HB3.out (by exact Rd.byB)) (show World.ownsRow _ w.heap.size 104 2 _ (fr.stk.length) (vcells fr.stk) by repeat (first | exact hown3.out | refine row_alloc ?_ _ | refine row_drew ?_)) hgrow4);have c9'':=kept HB4.out hcb c9;have f9'':=(kpB (X:=fun _=>False) HB4.out).frz f9 hcb (fun e=>e);replace hown4:=Lib.hid hown4;clear hgrow4 hat4) | fail))
  all_goals
    have hvc : vcells (fr.stk ++ [v]) = vcells fr.stk ++ [.int .i64 v.kind,.int .i64 v.n]:=by rw [vcells_append];rfl
    have hrow:=hown4.out
    rw [← hvc] at hrow
    have V4 : VS w4 (FX E L P) (.slice (some ⟨g4,0,none⟩) (fr.stk.length + 1) cap4) (fr.stk ++ [v]):=VS.of_row (base:=w.heap.size) (by rw [List.length_append];exact hrow) (fun k hk=>hfx.out k hk)
    have F4:=HF.out.below HB4.out
    have F5:=Lib.hid (F4.push V4)
    have H5:=Lib.hid ((HH.out.below HB4.out).frame F4 (kpC P w4 9 (.slice (some ⟨g4,0,none⟩) (fr.stk.length + 1) cap4)))
    have K5:=Lib.hid (kpFX (E:=E) (L:=L) (P:=P) (kpC P w4 9 (.slice (some ⟨g4,0,none⟩) (fr.stk.length + 1) cap4)) (fun k e=>.inr e))
    have c3':=F5.out.c3
    have c9n:=F5.out.c9
    clear hvc hrow V4 F4 c9'' f9'' c9
    rcases hs with rfl | ⟨c,rfl⟩
    · by_cases hfit : (size (fr.stk ++ [v]) : Int) ≤ m.stack
      · have hf : decide ((size (fr.stk ++ [v]) : Int) ≤ m.stack) = true:=by simpa using hfit
        go_wp2_with (first | (go_at_call 102;refine (sizeR F5.out.stk (by simp;omega)).mono ?_;rintro e w6 ⟨rfl,rfl⟩) | (go_at_call 156;refine (stopsF H5.out rfl).mono ?_;rintro e w6 ⟨rfl,rfl⟩) | (go_at_call 104;refine (mustT H5.out rfl).mono ?_;rintro e w6 ⟨rfl,rfl⟩))
        go_end0
        refine ⟨_,rfl,F5.out,?_,(kpB HB4.out).trans K5.out (fun _ h=>.inl h)⟩
        rw [putS_run,if_pos hfit];exact H5.out
      · have hf : decide ((size (fr.stk ++ [v]) : Int) ≤ m.stack) = false:=by simpa using hfit
        go_wp2_with (first | (go_at_call 102;refine (sizeR F5.out.stk (by simp;omega)).mono ?_;rintro e w6 ⟨rfl,rfl⟩) | (go_at_call 156;refine (stopsF H5.out rfl).mono ?_;rintro e w6 ⟨rfl,rfl⟩) | (go_at_call 104;refine (mustF H5.out rfl).mono ?_;rintro e w6 ⟨rfl,rfl⟩))
        go_end0
        obtain ⟨q1,q2⟩:=ended H5.out rfl 6 (Below.refl _ _)
        refine ⟨_,rfl,F5.out.heap q2 same_own,?_,((kpB HB4.out).trans K5.out (fun _ h=>.inl h)).trans q2 (fun _ h=>.inl (.inl h))⟩
        rw [putS_run,if_neg (by omega)];exact q1
    · go_wp2_with (first | (go_at_call 102;refine (sizeR F5.out.stk (by simp;omega)).mono ?_;rintro e w6 ⟨rfl,rfl⟩) | (go_at_call 156;refine (stopsO H5.out rfl).mono ?_;rintro e w6 ⟨rfl,rfl⟩))
      go_end0
      exact ⟨_,rfl,F5.out,H5.out,(kpB HB4.out).trans K5.out (fun _ h=>.inl h)⟩
end
end Rhw
end Go.Proofs.Ytncmhenfgbcihab
