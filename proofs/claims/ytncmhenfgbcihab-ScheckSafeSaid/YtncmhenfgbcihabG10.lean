/- Parts of the proof: Rc, Stk, Re, Rg1, Rg2, Rg3, Rg4. -/
import Derived.Test.YtncmhenfgbcihabG09
import Derived.Test.YtncmhenfgbcihabG01
import Derived.StillTailTactics
namespace Go.Proofs.Ytncmhenfgbcihab
open Go.RowKit
set_option linter.unusedSimpArgs false
set_option linter.unusedVariables false
namespace Rhw
open Num Rd D Run Mem HierW Hpw
structure Pl where
  cb : Nat
  lb : Nat
  vp : Value
  vc : Value
  vh : Value
  Z : Nat → Prop
def KX (E : Ev) (L : RL) (P : Pl) (k : Nat) : Prop:=own E L k ∨ k = P.cb ∨ k = P.lb
def FX (E : Ev) (L : RL) (P : Pl) (k : Nat) : Prop:=KX E L P k ∨ P.Z k
def Pl.zone (P : Pl) (Z : Nat → Prop) : Pl:=⟨P.cb,P.lb,P.vp,P.vc,P.vh,Z⟩
def fcells (P : Pl) (m : Me) (fr : Sf) (vs : Value) : List Value:=mcells P.vp P.vc P.vh m ++ [.slice (some ⟨P.lb,0,none⟩) fr.loc.length fr.loc.length,vs,.int .i64 fr.at_]
structure Fr (E : Ev) (w : World) (L : RL) (P : Pl) (m : Me) (fr : Sf) (vs : Value) : Prop where
  blk : Blk w P.cb (fcells P m fr vs)
  loc : Blk w P.lb (vcells fr.loc)
  lbw : P.lb < w.heap.size
  stk : VS w (FX E L P) vs fr.stk
  lo : E.B ≤ P.cb ∧ E.B ≤ P.lb
  far : ¬ own E L P.cb ∧ ¬ own E L P.lb
  ne : P.cb ≠ P.lb
  zlt : ∀ k,P.Z k → k < w.heap.size
section
variable {E : Ev} {w w' : World} {L L' : RL} {h h' : Hp} {d : Nat} {s : Sv} {P : Pl} {m : Me} {fr : Sf} {vs : Value}
theorem Fr.cbw (F : Fr E w L P m fr vs) : P.cb < w.heap.size:=cell_lt (F.blk 0 (by simp [fcells,mcells])).1
theorem Fr.c0 (F : Fr E w L P m fr vs) : w.cell? ⟨P.cb,0,none⟩ = some P.vp:=(F.blk 0 (by simp [fcells,mcells])).1
theorem Fr.c1 (F : Fr E w L P m fr vs) : w.cell? ⟨P.cb,1,none⟩ = some (.int .i64 m.ret.kind):=(F.blk 1 (by simp [fcells,mcells])).1
theorem Fr.c2 (F : Fr E w L P m fr vs) : w.cell? ⟨P.cb,2,none⟩ = some (.int .i64 m.ret.cls):=(F.blk 2 (by simp [fcells,mcells])).1
theorem Fr.c3 (F : Fr E w L P m fr vs) : w.cell? ⟨P.cb,3,none⟩ = some (.int .i64 m.stack):=(F.blk 3 (by simp [fcells,mcells])).1
theorem Fr.c8 (F : Fr E w L P m fr vs) : w.cell? ⟨P.cb,8,none⟩ = some (.slice (some ⟨P.lb,0,none⟩) fr.loc.length fr.loc.length):=(F.blk 8 (by simp [fcells,mcells])).1
theorem Fr.c9 (F : Fr E w L P m fr vs) : w.cell? ⟨P.cb,9,none⟩ = some vs:=(F.blk 9 (by simp [fcells,mcells])).1
theorem Fr.c10 (F : Fr E w L P m fr vs) : w.cell? ⟨P.cb,10,none⟩ = some (.int .i64 fr.at_):=(F.blk 10 (by simp [fcells,mcells])).1
theorem Fr.fz (F : Fr E w L P m fr vs) (k : Nat) (hk : k < 11) : w.frozen? ⟨P.cb,k,none⟩ = false:=(F.blk k (by simp [fcells,mcells];exact hk)).2
theorem Fr.heap (F : Fr E w L P m fr vs) (K : Kp (own E L) w w') (N : ∀ k,own E L' k → own E L k ∨ w.heap.size ≤ k) : Fr E w' L' P m fr vs:=by
  have hc:=F.cbw
  have hl:=F.lbw
  refine ⟨F.blk.next K F.far.1,F.loc.next K F.far.2,Nat.lt_of_lt_of_le hl K.size,F.stk.next K (fun b _ hb=>.inl (.inl hb)) (fun b hb hx=>?_),F.lo,⟨fun hk=>?_,fun hk=>?_⟩,F.ne,fun k hk=>Nat.lt_of_lt_of_le (F.zlt k hk) K.size⟩
  · rcases hx with (hx | hx) | hx
    · rcases N b hx with q | q
      · exact .inl (.inl q)
      · omega
    · exact .inl (.inr hx)
    · exact .inr hx
  · rcases N _ hk with q | q
    · exact F.far.1 q
    · omega
  · rcases N _ hk with q | q
    · exact F.far.2 q
    · omega
theorem Fr.below (F : Fr E w L P m fr vs) (hb : Below w.heap.size w w') : Fr E w' L P m fr vs:=F.heap (kpB hb) same_own
theorem Fr.push (F : Fr E w L P m fr vs) {st : List Vl} {v : Value} (hs : VS w (FX E L P) v st) : Fr E (w.setCell ⟨P.cb,9,none⟩ v) L P m ⟨fr.loc,st,fr.at_⟩ v:=by
  have K : Kp (fun k=>k = P.cb) w (w.setCell ⟨P.cb,9,none⟩ v):=Kp.setCell (Kp.refl (fun k=>k = P.cb) w) (p:=⟨P.cb,9,none⟩) (.inl rfl) v
  refine ⟨?_,F.loc.next K (fun e=>F.ne e.symm),Nat.lt_of_lt_of_le F.lbw K.size,hs.next K (fun b _ e=>.inl (.inr (.inl e))) (fun _ _ e=>e),F.lo,F.far,F.ne,fun k hk=>Nat.lt_of_lt_of_le (F.zlt k hk) K.size⟩
  exact F.blk.set 9 (by simp [fcells,mcells]) v
theorem Fr.go (F : Fr E w L P m fr vs) (a : Nat) : Fr E (w.setCell ⟨P.cb,10,none⟩ (.int .i64 a)) L P m ⟨fr.loc,fr.stk,a⟩ vs:=by
  have K : Kp (fun k=>k = P.cb) w (w.setCell ⟨P.cb,10,none⟩ (.int .i64 a)):=Kp.setCell (Kp.refl (fun k=>k = P.cb) w) (p:=⟨P.cb,10,none⟩) (.inl rfl) _
  refine ⟨?_,F.loc.next K (fun e=>F.ne e.symm),Nat.lt_of_lt_of_le F.lbw K.size,F.stk.next K (fun b _ e=>.inl (.inr (.inl e))) (fun _ _ e=>e),F.lo,F.far,F.ne,fun k hk=>Nat.lt_of_lt_of_le (F.zlt k hk) K.size⟩
  exact F.blk.set 10 (by simp [fcells,mcells]) _
theorem RH.frame (H : RH E w L h d s) (F : Fr E w L P m fr vs) (K : Kp (fun k=>k = P.cb ∨ k = P.lb) w w') : RH E w' L h d s :=
  H.keep K (fun k hk=>by
    rcases hk with e | e
    · subst e;exact ⟨F.lo.1,F.far.1⟩
    · subst e;exact ⟨F.lo.2,F.far.2⟩)
theorem kpC (P : Pl) (w : World) (j : Nat) (v : Value) : Kp (fun k=>k = P.cb ∨ k = P.lb) w (w.setCell ⟨P.cb,j,none⟩ v):=Kp.setCell (Kp.refl _ w) (p:=⟨P.cb,j,none⟩) (.inl (.inl rfl)) v
theorem kpFX {X : Nat → Prop} (K : Kp X w w') (hX : ∀ k,X k → KX E L P k) : Kp (KX E L P) w w':=K.mono hX
theorem Fr.zone (F : Fr E w L P m fr vs) (hb : Below w.heap.size w w') (Z : Nat → Prop) (h1 : ∀ k,Z k → P.Z k ∨ w.heap.size ≤ k) (h2 : ∀ k,Z k → k < w'.heap.size) : Fr E w' L (P.zone Z) m fr vs:=by
  have G:=F.below hb
  refine ⟨G.blk,G.loc,G.lbw,F.stk.next (kpB (X:=fun _=>False) hb) (fun _ _ e=>e.elim) (fun b hlt hx=>?_),G.lo,G.far,G.ne,h2⟩
  rcases hx with hx | hx
  · exact .inl hx
  · rcases h1 b hx with q | q
    · exact .inr q
    · omega
theorem Fr.unzone {Z : Nat → Prop} (F : Fr E w L (P.zone Z) m fr vs) (hZ : ∀ k,P.Z k → Z k) : Fr E w L P m fr vs :=
  ⟨F.blk,F.loc,F.lbw,F.stk.mono (fun b _ hx=>hx.imp_right (hZ b)),F.lo,F.far,F.ne,fun k hk=>F.zlt k (hZ k hk)⟩
theorem Fr.keep (F : Fr E w L P m fr vs) {X : Nat → Prop} (K : Kp X w w') (hX : ∀ k,X k → k < w.heap.size → P.Z k ∧ ¬ KX E L P k) : Fr E w' L P m fr vs:=by
  have no : ∀ k,KX E L P k → k < w.heap.size → ¬ X k:=fun k hk hl hx=>(hX k hx hl).2 hk
  refine ⟨F.blk.next K (no _ (.inr (.inl rfl)) F.cbw),F.loc.next K (no _ (.inr (.inr rfl)) F.lbw),Nat.lt_of_lt_of_le F.lbw K.size,F.stk.next K (fun b hl hx=>.inr (hX b hx hl).1) (fun _ _ e=>e),F.lo,F.far,F.ne,fun k hk=>Nat.lt_of_lt_of_le (F.zlt k hk) K.size⟩
def TakeR (E : Ev) (L : RL) (P : Pl) (m : Me) (h : Hp) (d : Nat) (s : Sv) (l : List Vl) (fr : Sf) (w : World) (e : Ending) (w' : World) : Prop :=
  ∃ vt vs',e = .returned vt ∧ VS w' (FX E L P) vt l ∧ Fr E w' L P m fr vs' ∧ RH E w' L h d s ∧ Kp (KX E L P) w w'
set_option maxRecDepth 100000 in
set_option maxHeartbeats 2000000 in
theorem takeOk (H : RH E w L h d Sv.run) (F : Fr E w L P m fr vs) (n : Nat) (hn : n ≤ fr.stk.length) (h1000 : fr.stk.length ≤ 1000) :
    Calls Try.prog 105 #[.pointer (some ⟨E.hb,0,none⟩),.pointer (some ⟨P.cb,0,none⟩),.int .i64 n] w (TakeR E L P m h d Sv.run (fr.stk.drop (fr.stk.length - n)) ⟨fr.loc,fr.stk.take (fr.stk.length - n),fr.at_⟩ w):=by
  have HH:=Lib.hid H
  have HF:=Lib.hid F
  have c9:=F.c9
  have f9:=F.fz 9 (by decide)
  obtain ⟨a,cap,rfl,k1,k2⟩:=F.stk.len
  have hle : ((fr.stk.length : Int) - n ≥ 0):=by omega
  have hd : decide ((0 : Int) ≤ (fr.stk.length : Int) - n) = true:=by simp;omega
  have hk : fr.stk.length - n ≤ fr.stk.length:=by omega
  clear H F
  by_cases hcap : cap = fr.stk.length - n
  · subst hcap
    go_enter Try.func105,Try.ntmps105
    go_wp2_with (go_at_call 104;refine (mustT HH.out rfl).mono ?_;rintro e w2 ⟨rfl,rfl⟩)
    go_ret
    have F2:=HF.out.push (HF.out.stk.take hk)
    exact ⟨_,_,rfl,(HF.out.stk.dropE).next (kpC P w 9 _) (fun b _ e=>.inl (.inr e)) (fun _ _ e=>e),F2,HH.out.frame HF.out (kpC P w 9 _),kpFX (kpC P w 9 _) (fun k e=>.inr e)⟩
  · go_enter Try.func105,Try.ntmps105
    go_wp2_with (go_at_call 104;refine (mustT HH.out rfl).mono ?_;rintro e w2 ⟨rfl,rfl⟩)
    go_ret
    have F2:=HF.out.push (HF.out.stk.take hk)
    exact ⟨_,_,rfl,(HF.out.stk.dropA hk).next (kpC P w 9 _) (fun b _ e=>.inl (.inr e)) (fun _ _ e=>e),F2,HH.out.frame HF.out (kpC P w 9 _),kpFX (kpC P w 9 _) (fun k e=>.inr e)⟩
theorem info_val : (Try.prog.info? 104).map (fun i=>(i.zero,i.size,i.bytes)) = some (some (.agg #[.int .i64 0,.int .i64 0]),2,16):=by kernel_rfl
theorem vcells_rep : ∀ n : Nat,vcells (List.replicate n Vl.nil) = List.replicate (n * 2) (.int .i64 0):=by
  intro n
  induction n with
  | zero=>rfl
  | succ n ih=>rw [show (n + 1) * 2 = n * 2 + 1 + 1 by omega,List.replicate_succ,List.replicate_succ,List.replicate_succ,← ih];rfl
theorem mkVals (n : Nat) (hn : n ≤ 1000) (w : World) : ∃ w',(Instr.makeSlice 100 (.int .i64 (n : Int)) (.int .i64 (n : Int))).run Try.prog w = .ok (.slice (some ⟨w.heap.size,0,none⟩) n n) w' ∧ Blk w' w.heap.size (vcells (List.replicate n Vl.nil)) ∧ Below w.heap.size w w' ∧ w.heap.size < w'.heap.size:=by
  obtain ⟨i,hi,hz,h1,h2⟩:=info_parts info_val
  obtain ⟨w',hrun,hown,hg⟩:=run_make_full (P:=Try.prog) (w:=w) w.heap.size 100 104 i (.agg #[.int .i64 0,.int .i64 0]) 2 Try.underlying100 hi hz h1 .i64 .i64 n (by rw [h2];omega) (by unfold maxLen;omega) (Nat.le_refl _)
  refine ⟨w',hrun,fun j hj=>?_,?_,(World.ownsRow.lt hown _ rfl).2⟩
  · have hj2 : (madeCells (Value.agg #[.int .i64 0, .int .i64 0]).cells (n * 2)).toList[j]? = some ((vcells (List.replicate n Vl.nil))[j]) := by
      have hl : j < n * 2:=by rw [vcells_len,List.length_replicate] at hj;exact hj
      have e2 : (vcells (List.replicate n Vl.nil))[j] = .int .i64 0:=by
        have:=vcells_rep n
        simp only [this,List.getElem_replicate]
      rw [e2]
      have e3 : (j % 2 = 0) ∨ (j % 2 = 1):=by omega
      rcases e3 with e3 | e3 <;> simp [madeCells,Value.cells,hl,e3]
    exact ⟨row_cell hown hj2,row_free hown⟩
  · exact (Kp.of_grown (X:=fun _=>False) hg (fun k e=>by cases e)).below (Nat.le_refl _) (fun _ e=>e.elim)
set_option maxRecDepth 100000 in
set_option maxHeartbeats 2000000 in
theorem takeStuck (H : RH E w L h d Sv.run) (F : Fr E w L P m fr vs) (n : Nat) (hn : fr.stk.length < n) (h4 : n ≤ 4) (k : Int) (hk : k = n) :
    Calls Try.prog 105 #[.pointer (some ⟨E.hb,0,none⟩),.pointer (some ⟨P.cb,0,none⟩),.int .i64 k] w (TakeR E L P m h d (Sv.ends 6) (List.replicate n Vl.nil) fr w):=by
  have HH:=Lib.hid H
  have HF:=Lib.hid F
  have c9:=F.c9
  obtain ⟨a,cap,rfl,k1,k2⟩:=F.stk.len
  have e1:=ended H rfl 6 (Below.refl w.heap.size w)
  obtain ⟨w2,hrun,hblk,hbel,hlt⟩:=mkVals n (by omega) ((w.setCell ⟨E.hb,12,none⟩ (.bool true)).setCell ⟨E.hb,6,none⟩ (.int .i64 6))
  subst hk
  have hs : ((w.setCell ⟨E.hb,12,none⟩ (.bool true)).setCell ⟨E.hb,6,none⟩ (.int .i64 6)).heap.size = w.heap.size:=by simp [World.setCell]
  rw [hs] at hblk hlt
  have E1:=Lib.hid e1
  clear hs
  have HB:=Lib.hid hblk
  have HL:=Lib.hid hbel
  have hd1 : decide ((0 : Int) ≤ (fr.stk.length : Int) - n) = false:=by simp;omega
  have hd2 : decide ((n : Int) ≤ (fr.stk.length : Int)) = false:=by simp;omega
  have hd3 : decide (n ≤ fr.stk.length) = false:=by simp;omega
  have hd4 : ¬ ((0 : Int) ≤ (fr.stk.length : Int) - n):=by omega
  clear H F e1 hblk hbel
  go_enter Try.func105,Try.ntmps105
  go_wp2_with (go_at_call 104;refine (mustF HH.out rfl).mono ?_;rintro e w2 ⟨rfl,rfl⟩)
  go_ret
  have hfx : ¬ FX E L P w.heap.size:=fun hx=>by
    rcases hx with (hx | hx | hx) | hx
    · exact (fresh_b HH.out (Nat.le_refl _)).2 hx
    · have:=HF.out.cbw;omega
    · have:=HF.out.lbw;omega
    · have:=HF.out.zlt _ hx;omega
  have V:=VS.of_blk (l:=List.replicate n Vl.nil) (cap:=n) HB.out hfx (by simp) (by omega)
  rw [List.length_replicate] at V
  obtain ⟨A1,A2⟩:=E1.out
  exact ⟨_,_,rfl,V,(HF.out.heap A2 same_own).below HL.out,A1.below HL.out,(kb A2 HL.out).mono (fun k hk=>.inl hk)⟩
end
end Rhw
end Go.Proofs.Ytncmhenfgbcihab
namespace Go.Proofs.Ytncmhenfgbcihab
open Go.RowKit
set_option linter.unusedVariables false
namespace Run
theorem stk_last {l : List Vl} (h : l ≠ []) : l = l.dropLast ++ [top l]:=by
  unfold top
  rw [List.getLast?_eq_some_getLast h]
  exact (List.dropLast_concat_getLast h).symm
theorem stk_drop1 {l : List Vl} (h : l ≠ []) : l.drop (l.length - 1) = [top l]:=by
  have e:=stk_last h
  have hl : l.length - 1 = l.dropLast.length:=by simp
  rw [hl]
  conv=>lhs;rw [e]
  simp
theorem stk_take1 (l : List Vl) : l.take (l.length - 1) = l.dropLast:=(List.dropLast_eq_take).symm
theorem stk_drop2 {l : List Vl} (h : l ≠ []) (h2 : l.dropLast ≠ []) : l.drop (l.length - 2) = [top l.dropLast,top l]:=by
  have e:=stk_last h
  have e2:=stk_last h2
  have hl : l.length - 2 = l.dropLast.dropLast.length:=by simp;omega
  rw [hl]
  conv=>lhs;rw [e]
  rw [show l.dropLast ++ [top l] = l.dropLast.dropLast ++ [top l.dropLast, top l] by conv => lhs; rw [e2]
                                                                                     simp]
  simp
theorem stk_take2 (l : List Vl) : l.take (l.length - 2) = l.dropLast.dropLast:=by
  rw [List.dropLast_eq_take,List.dropLast_eq_take,List.take_take,List.length_take]
  congr 1
  omega
theorem stk_ne {l : List Vl} (h : l ≠ []) : 1 ≤ l.length:=by cases l <;> simp_all
theorem stk_ne2 {l : List Vl} (h : l ≠ []) (h2 : l.dropLast ≠ []) : 2 ≤ l.length:=by
  have:=stk_ne h
  have h3:=stk_ne h2
  rw [List.length_dropLast] at h3
  omega
end Run
end Go.Proofs.Ytncmhenfgbcihab
namespace Go.Proofs.Ytncmhenfgbcihab
open Go.RowKit
set_option linter.unusedSimpArgs false
set_option linter.unusedVariables false
namespace Rhw
open Num Rd D Run Mem HierW Hpw
theorem VS.one {w : World} {X : Nat → Prop} {v : Value} {x : Vl} (h : VS w X v [x]) : ∃ b o cap,v = .slice (some ⟨b,o,none⟩) 1 cap ∧ 1 ≤ cap ∧ cap ≤ 9223372036854775807 ∧ b < w.heap.size ∧ ¬ X b ∧ w.cell? ⟨b,o,none⟩ = some (.int .i64 x.kind) ∧ w.cell? ⟨b,o + 1,none⟩ = some (.int .i64 x.n):=by
  obtain ⟨b,o,cap,h1,h2,h3,h4,h5,h6⟩:=h.form (by simp)
  obtain ⟨c0,c1⟩:=h6 0 (by simp)
  exact ⟨b,o,cap,h1,h2,h3,h4,h5,by simpa using c0,by simpa using c1⟩
theorem VS.two {w : World} {X : Nat → Prop} {v : Value} {x y : Vl} (h : VS w X v [x,y]) : ∃ b o cap,v = .slice (some ⟨b,o,none⟩) 2 cap ∧ 2 ≤ cap ∧ cap ≤ 9223372036854775807 ∧ b < w.heap.size ∧ ¬ X b ∧ w.cell? ⟨b,o,none⟩ = some (.int .i64 x.kind) ∧ w.cell? ⟨b,o + 1,none⟩ = some (.int .i64 x.n) ∧ w.cell? ⟨b,o + 2,none⟩ = some (.int .i64 y.kind) ∧ w.cell? ⟨b,o + 2 + 1,none⟩ = some (.int .i64 y.n):=by
  obtain ⟨b,o,cap,h1,h2,h3,h4,h5,h6⟩:=h.form (by simp)
  obtain ⟨c0,c1⟩:=h6 0 (by simp)
  obtain ⟨c2,c3⟩:=h6 1 (by simp)
  exact ⟨b,o,cap,h1,h2,h3,h4,h5,by simpa using c0,by simpa using c1,by simpa using c2,by simpa using c3⟩
section
variable {E : Ev} {w w' w1 w2 w3 : World} {L L' : RL} {h h' : Hp} {d : Nat} {s : Sv} {P : Pl} {m : Me} {fr fr1 : Sf} {vs vs1 : Value}
theorem take0R (H : RH E w L h d Sv.run) (F : Fr E w L P m fr vs) (hl : fr.stk.length ≤ 1000) : Calls Try.prog 105 #[.pointer (some ⟨E.hb,0,none⟩),.pointer (some ⟨P.cb,0,none⟩),.int .i64 0] w (TakeR E L P m h d Sv.run [] fr w):=by
  have:=takeOk H F 0 (Nat.zero_le _) hl
  rw [Nat.sub_zero,List.drop_length,List.take_length] at this
  exact this
theorem take1R (H : RH E w L h d Sv.run) (F : Fr E w L P m fr vs) (hn : fr.stk ≠ []) (hl : fr.stk.length ≤ 1000) : Calls Try.prog 105 #[.pointer (some ⟨E.hb,0,none⟩),.pointer (some ⟨P.cb,0,none⟩),.int .i64 1] w (TakeR E L P m h d Sv.run [top fr.stk] ⟨fr.loc,fr.stk.dropLast,fr.at_⟩ w):=by
  have:=takeOk H F 1 (stk_ne hn) hl
  rw [stk_drop1 hn,stk_take1] at this
  exact this
theorem take2R (H : RH E w L h d Sv.run) (F : Fr E w L P m fr vs) (hn : fr.stk ≠ []) (hn2 : fr.stk.dropLast ≠ []) (hl : fr.stk.length ≤ 1000) : Calls Try.prog 105 #[.pointer (some ⟨E.hb,0,none⟩),.pointer (some ⟨P.cb,0,none⟩),.int .i64 2] w (TakeR E L P m h d Sv.run [top fr.stk.dropLast,top fr.stk] ⟨fr.loc,fr.stk.dropLast.dropLast,fr.at_⟩ w):=by
  have:=takeOk H F 2 (stk_ne2 hn hn2) hl
  rw [stk_drop2 hn hn2,stk_take2] at this
  exact this
theorem take1S (H : RH E w L h d Sv.run) (F : Fr E w L P m fr vs) (hn : fr.stk = []) : Calls Try.prog 105 #[.pointer (some ⟨E.hb,0,none⟩),.pointer (some ⟨P.cb,0,none⟩),.int .i64 1] w (TakeR E L P m h d (Sv.ends 6) [Vl.nil] fr w) :=
  takeStuck H F 1 (by rw [hn];simp) (by omega) 1 rfl
theorem take2S (H : RH E w L h d Sv.run) (F : Fr E w L P m fr vs) (hn : fr.stk = [] ∨ fr.stk.dropLast = []) : Calls Try.prog 105 #[.pointer (some ⟨E.hb,0,none⟩),.pointer (some ⟨P.cb,0,none⟩),.int .i64 2] w (TakeR E L P m h d (Sv.ends 6) [Vl.nil,Vl.nil] fr w) :=
  takeStuck H F 2 (by
    rcases hn with hn | hn
    · rw [hn];simp
    · have:=congrArg List.length hn
      rw [List.length_dropLast] at this
      simp at this;omega) (by omega) 2 rfl
def RRm (E : Ev) (L : RL) (d : Nat) (k n : Int) (w w' : World) (r : Res Vl) : Prop:=match r with
  | .ok a h'=>(k = a.kind ∧ n = a.n) ∧ RL2 E L d w w' h' Sv.run
  | .thrown o h'=>RL2 E L d w w' h' (Sv.thr o)
  | .stop c h'=>RL2 E L d w w' h' (Sv.ends c)
theorem rrv_m {r : Res Vl} {e : Ending} (H : RRv E L d w r e w') : ∃ k n : Int,e = .returned (.agg #[.int .i64 k,.int .i64 n]) ∧ RRm E L d k n w w' r:=H
theorem rrm_kp {k n : Int} {r : Res Vl} (H : RRm E L d k n w w' r) : Kp (own E L) w w':=by
  cases r with
  | ok a h'=>obtain ⟨_,L',K,_⟩:=H;exact K
  | thrown o h'=>obtain ⟨L',K,_⟩:=H;exact K
  | stop c h'=>obtain ⟨L',K,_⟩:=H;exact K
theorem top_mem {l : List Vl} (h : l ≠ []) : top l ∈ l:=by
  have:=stk_last h
  rw [this]
  simp [top]
theorem rru_kp {r : Res Unit} {w w' : World} (H : match r with
    | .ok a h'=>RL2 E L d w w' h' Sv.run
    | .thrown o h'=>RL2 E L d w w' h' (Sv.thr o)
    | .stop c h'=>RL2 E L d w w' h' (Sv.ends c)) : Kp (own E L) w w':=by
  cases r with
  | ok a h'=>obtain ⟨L',K,_⟩:=H;exact K
  | thrown o h'=>obtain ⟨L',K,_⟩:=H;exact K
  | stop c h'=>obtain ⟨L',K,_⟩:=H;exact K
theorem rru_val {r : Res Unit} {v : Vl} {w w' : World} (H : match r with
    | .ok a h'=>RL2 E L d w w' h' Sv.run
    | .thrown o h'=>RL2 E L d w w' h' (Sv.thr o)
    | .stop c h'=>RL2 E L d w w' h' (Sv.ends c)) : RRm E L d v.kind v.n w w' (r.bind fun _ h=>.ok v h):=by
  cases r with
  | ok a h'=>exact ⟨⟨rfl,rfl⟩,H⟩
  | thrown o h'=>exact H
  | stop c h'=>exact H
theorem vs_ne {vb : Nat} (h : ¬ FX E L P vb) : vb ≠ E.hb:=fun e=>h (.inl (.inl (.inl e)))
def GiveR (E : Ev) (L : RL) (P : Pl) (m : Me) (d : Nat) (w : World) (r : Res Vl) (fr : Sf) (e : Ending) (w' : World) : Prop :=
  ∃ k n : Int,e = .returned (.agg #[.int .i64 k,.int .i64 n]) ∧ ∃ L',Kp (KX E L P) w w' ∧ (∀ k,own E L' k → own E L k ∨ w.heap.size ≤ k) ∧ match r with
    | .ok a h'=>(k = a.kind ∧ n = a.n) ∧ RH E w' L' h' d Sv.run ∧ ∃ vs',Fr E w' L' P m fr vs'
    | .thrown o h'=>RH E w' L' h' d (Sv.thr o) ∧ ∃ vs',Fr E w' L' P m fr vs'
    | .stop c h'=>RH E w' L' h' d (Sv.ends c)
theorem kp2 (w : World) (b : Nat) (x y : Value) : Kp (fun k=>k = b) w ((w.setCell ⟨b,0,none⟩ x).setCell ⟨b,1,none⟩ y):=((Kp.refl (fun k=>k = b) w).setCell (p:=⟨b,0,none⟩) (.inl rfl) x).setCell (p:=⟨b,1,none⟩) (.inl rfl) y
theorem kp2d (w : World) (b : Nat) (x y : Value) : Kp (fun k=>k = b) w ((w.setCell ⟨b,0,none⟩ x).setCell ⟨b,1,none⟩ y).drew:=(kp2 w b x y).drew
theorem kpd2 (w : World) (b : Nat) (x y : Value) : Kp (fun k=>k = b) w ((w.drew.setCell ⟨b,0,none⟩ x).setCell ⟨b,1,none⟩ y):=(((Kp.refl (fun k=>k = b) w).drew).setCell (p:=⟨b,0,none⟩) (.inl rfl) x).setCell (p:=⟨b,1,none⟩) (.inl rfl) y
theorem give_of {r : Res Vl} {k n : Int} {b : Nat} {Z : Nat → Prop} (hb : w.heap.size ≤ b) (hb1 : b < w1.heap.size) (H : RH E w L h d s) (R : RRm E L d k n w1 w2 r) (F1 : Fr E w1 L (P.zone Z) m fr1 vs1) (hZ : Z b) (hPZ : ∀ k, P.Z k → Z k) (hKX : ∀ k, KX E L P k → k < w.heap.size) (K1 : Kp (KX E L P) w w1) (K3 : Kp (fun k => k = b) w2 w3) :
    GiveR E L P m d w r fr1 (.returned (.agg #[.int .i64 k,.int .i64 n])) w3:=by
  have hsz:=K1.size
  have key : ∀ (h' : Hp) (s' : Sv),RL2 E L d w1 w2 h' s' → ∃ L',Kp (KX E L P) w w3 ∧ (∀ k,own E L' k → own E L k ∨ w.heap.size ≤ k) ∧ RH E w3 L' h' d s' ∧ ∃ vs',Fr E w3 L' P m fr1 vs':=by
    intro h' s' ⟨L',K2,N2,H2⟩
    have hn : ¬ own E L' b:=fun hk=>by
      rcases N2 b hk with q | q
      · have:=hKX b (.inl q);omega
      · omega
    have hEb : E.B ≤ b:=by have:=H.rows.base;omega
    have F2:=F1.heap K2 N2
    refine ⟨L',(K1.trans K2 (fun y hy=>.inl (.inl hy))).trans K3 (fun y hy=>.inr (by omega)),fun k hk=>(N2 k hk).imp_right (fun q=>by omega),H2.keep K3 (fun k e=>by subst e;exact ⟨hEb,hn⟩),vs1,?_⟩
    refine Fr.unzone (F2.keep K3 (fun k e hl=>?_)) hPZ
    subst e
    refine ⟨hZ,fun hk=>?_⟩
    rcases hk with hk | hk | hk
    · exact hn hk
    · have:=hKX P.cb (.inr (.inl rfl));simp [Pl.zone] at hk;omega
    · have:=hKX P.lb (.inr (.inr rfl));simp [Pl.zone] at hk;omega
  cases r with
  | ok a h' =>
    obtain ⟨e,R⟩:=R
    obtain ⟨L',a1,a2,a3,a4⟩:=key _ _ R
    exact ⟨k,n,rfl,L',a1,a2,e,a3,a4⟩
  | thrown o h' =>
    obtain ⟨L',a1,a2,a3,a4⟩:=key _ _ R
    exact ⟨k,n,rfl,L',a1,a2,a3,a4⟩
  | stop c h' =>
    obtain ⟨L',a1,a2,a3,a4⟩:=key _ _ R
    exact ⟨k,n,rfl,L',a1,a2,a3⟩
theorem rrm_ok (H : RH E w L h d Sv.run) {a : Vl} {k n : Int} {r : Res Vl} (hr : r = .ok a h) (hk : k = a.kind) (hn : n = a.n) : RRm E L d k n w w r:=by
  subst hr;exact ⟨⟨hk,hn⟩,L,Kp.refl _ _,same_own,H⟩
theorem rrm_stop {c : Int} (H : RH E w' L h d (Sv.ends c)) (K : Kp (own E L) w w') {k n : Int} {r : Res Vl} (hr : r = .stop c h) : RRm E L d k n w w' r:=by
  subst hr;exact ⟨L,K,same_own,H⟩
end
end Rhw
end Go.Proofs.Ytncmhenfgbcihab
namespace Go.Proofs.Ytncmhenfgbcihab
open Go.RowKit
set_option linter.unusedSimpArgs false
set_option linter.unusedVariables false
namespace Rhw
open Num Rd D Run Mem HierW Hpw
section
variable {E : Ev} {w w' : World} {L L' : RL} {h h' : Hp} {d : Nat} {s : Sv} {P : Pl} {m : Me} {fr : Sf} {vs : Value}
set_option maxRecDepth 100000 in
set_option maxHeartbeats 4000000 in
theorem giv1 (H : RH E w L h d Sv.run) (F : Fr E w L P m fr vs) (hl : fr.stk.length ≤ 1000) (a b c n : Int) (va : Value) :
    Calls Try.prog 160 #[.pointer (some ⟨E.hb,0,none⟩),.pointer (some ⟨P.cb,0,none⟩),.agg #[.int .i64 1,.int .i64 a,.int .i64 b,.int .i64 c,.int .i64 n,va]] w (GiveR E L P m d w (.ok ⟨1,n⟩ h) fr):=by
  have hKX : ∀ k,KX E L P k → k < w.heap.size:=fun k hk=>by
    rcases hk with hk | hk | hk
    · exact (own_lo H.rows hk).2
    · rw [hk];exact F.cbw
    · rw [hk];exact F.lbw
  have HH:=Lib.hid H
  have hhb0 : E.hb < w.heap.size:=H.rows.base.2
  have hhb1 : E.hb < w.heap.size + 1:=by omega
  obtain ⟨Z,hZ⟩ : ∃ Z : Nat → Prop,Hid (Z = fun k=>P.Z k ∨ k = w.heap.size ∨ k = w.heap.size + 1):=⟨_,rfl⟩
  have HB0 : Below w.heap.size w ((w.alloc (.cells #[.int .i64 1,.int .i64 a,.int .i64 b,.int .i64 c,.int .i64 n,va] 63)).alloc (.cells #[.int .i64 0,.int .i64 0] 104)):=by exact Rd.byB
  have H0:=Lib.hid (H.below HB0)
  have F0:=Lib.hid (F.zone HB0 Z (fun k hk=>by rw [hZ.out] at hk;rcases hk with q | q | q;exact .inl q;exact .inr (by omega);exact .inr (by omega)) (fun k hk=>by rw [hZ.out] at hk;rcases hk with q | q | q;exact Nat.lt_of_lt_of_le (F.zlt k q) HB0.size;(simp;omega);(simp;omega)))
  have nx0 : ¬ KX E L (P.zone Z) w.heap.size:=fun hk=>by have:=hKX _ hk;omega
  have nx1 : ¬ KX E L (P.zone Z) (w.heap.size + 1):=fun hk=>by have:=hKX _ hk;omega
  have z1 : Hid (Z (w.heap.size + 1)):=by show Z _;rw [hZ.out];exact .inr (.inr rfl)
  have zp : Hid (∀ k,P.Z k → Z k):=fun k hk=>by rw [hZ.out];exact .inl hk
  have hkx:=Lib.hid hKX
  have KB0:=Lib.hid (kpB (X:=KX E L P) HB0)
  clear H F hZ HB0 hKX
  go_enter Try.func160,Try.ntmps160
  go_wp2_with (go_at_call 105;refine (take0R H0.out F0.out hl).mono ?_;rintro e w1 ⟨vt,vs1,rfl,V1,F1,H1,K1⟩;have i0:=K1.cell (c:=w.heap.size) (o:=0) (v:=.int .i64 1) (by go_simp) nx0;have i1:=K1.cell (c:=w.heap.size) (o:=1) (v:=.int .i64 a) (by go_simp) nx0;have i2:=K1.cell (c:=w.heap.size) (o:=2) (v:=.int .i64 b) (by go_simp) nx0;have i4:=K1.cell (c:=w.heap.size) (o:=4) (v:=.int .i64 n) (by go_simp) nx0;have r0:=K1.cell (c:=w.heap.size + 1) (o:=0) (v:=.int .i64 0) (by go_simp) nx1;have q0:=K1.frz (c:=w.heap.size + 1) (o:=0) (b:=false) (by go_simp) (by simp) nx1;have r1:=K1.cell (c:=w.heap.size + 1) (o:=1) (v:=.int .i64 0) (by go_simp) nx1;have q1:=K1.frz (c:=w.heap.size + 1) (o:=1) (b:=false) (by go_simp) (by simp) nx1;have hb1:=H1.rows.base.2;have hsz1 : w.heap.size + 1 < w1.heap.size:=(by have:=K1.size;simp at this;omega);have c12:=H1.c12;have f12:=H1.fz 12 (by decide);have f6:=H1.fz 6 (by decide);have c6:=H1.c6;replace V1:=Lib.hid V1;replace F1:=Lib.hid F1;replace H1:=Lib.hid H1;replace K1:=Lib.hid (KB0.out.trans K1 (fun y hy=>.inl hy)))
  refine bodyPost_ret (v:=.agg #[.int .i64 1,.int .i64 n]) (by simp [results,Try.results160,go_sem] <;> go_simp) rfl ?_
  exact give_of (b:=w.heap.size + 1) (by omega) (by first | omega | (simp;omega)) HH.out (rrm_ok H1.out rfl rfl rfl) (F1.out) z1.out zp.out hkx.out (K1.out) (by first | exact kp2 _ _ _ _ | exact kp2d _ _ _ _)
set_option maxRecDepth 100000 in
set_option maxHeartbeats 4000000 in
theorem giv2 (H : RH E w L h d Sv.run) (F : Fr E w L P m fr vs) (hl : fr.stk.length ≤ 1000) (a b c n : Int) (va : Value) :
    Calls Try.prog 160 #[.pointer (some ⟨E.hb,0,none⟩),.pointer (some ⟨P.cb,0,none⟩),.agg #[.int .i64 2,.int .i64 a,.int .i64 b,.int .i64 c,.int .i64 n,va]] w (GiveR E L P m d w (.ok ⟨2,n⟩ h) fr):=by
  have hKX : ∀ k,KX E L P k → k < w.heap.size:=fun k hk=>by
    rcases hk with hk | hk | hk
    · exact (own_lo H.rows hk).2
    · rw [hk];exact F.cbw
    · rw [hk];exact F.lbw
  have HH:=Lib.hid H
  have hhb0 : E.hb < w.heap.size:=H.rows.base.2
  have hhb1 : E.hb < w.heap.size + 1:=by omega
  obtain ⟨Z,hZ⟩ : ∃ Z : Nat → Prop,Hid (Z = fun k=>P.Z k ∨ k = w.heap.size ∨ k = w.heap.size + 1):=⟨_,rfl⟩
  have HB0 : Below w.heap.size w ((w.alloc (.cells #[.int .i64 2,.int .i64 a,.int .i64 b,.int .i64 c,.int .i64 n,va] 63)).alloc (.cells #[.int .i64 0,.int .i64 0] 104)):=by exact Rd.byB
  have H0:=Lib.hid (H.below HB0)
  have F0:=Lib.hid (F.zone HB0 Z (fun k hk=>by rw [hZ.out] at hk;rcases hk with q | q | q;exact .inl q;exact .inr (by omega);exact .inr (by omega)) (fun k hk=>by rw [hZ.out] at hk;rcases hk with q | q | q;exact Nat.lt_of_lt_of_le (F.zlt k q) HB0.size;(simp;omega);(simp;omega)))
  have nx0 : ¬ KX E L (P.zone Z) w.heap.size:=fun hk=>by have:=hKX _ hk;omega
  have nx1 : ¬ KX E L (P.zone Z) (w.heap.size + 1):=fun hk=>by have:=hKX _ hk;omega
  have z1 : Hid (Z (w.heap.size + 1)):=by show Z _;rw [hZ.out];exact .inr (.inr rfl)
  have zp : Hid (∀ k,P.Z k → Z k):=fun k hk=>by rw [hZ.out];exact .inl hk
  have hkx:=Lib.hid hKX
  have KB0:=Lib.hid (kpB (X:=KX E L P) HB0)
  clear H F hZ HB0 hKX
  go_enter Try.func160,Try.ntmps160
  go_wp2_with (go_at_call 105;refine (take0R H0.out F0.out hl).mono ?_;rintro e w1 ⟨vt,vs1,rfl,V1,F1,H1,K1⟩;have i0:=K1.cell (c:=w.heap.size) (o:=0) (v:=.int .i64 2) (by go_simp) nx0;have i1:=K1.cell (c:=w.heap.size) (o:=1) (v:=.int .i64 a) (by go_simp) nx0;have i2:=K1.cell (c:=w.heap.size) (o:=2) (v:=.int .i64 b) (by go_simp) nx0;have i4:=K1.cell (c:=w.heap.size) (o:=4) (v:=.int .i64 n) (by go_simp) nx0;have r0:=K1.cell (c:=w.heap.size + 1) (o:=0) (v:=.int .i64 0) (by go_simp) nx1;have q0:=K1.frz (c:=w.heap.size + 1) (o:=0) (b:=false) (by go_simp) (by simp) nx1;have r1:=K1.cell (c:=w.heap.size + 1) (o:=1) (v:=.int .i64 0) (by go_simp) nx1;have q1:=K1.frz (c:=w.heap.size + 1) (o:=1) (b:=false) (by go_simp) (by simp) nx1;have hb1:=H1.rows.base.2;have hsz1 : w.heap.size + 1 < w1.heap.size:=(by have:=K1.size;simp at this;omega);have c12:=H1.c12;have f12:=H1.fz 12 (by decide);have f6:=H1.fz 6 (by decide);have c6:=H1.c6;replace V1:=Lib.hid V1;replace F1:=Lib.hid F1;replace H1:=Lib.hid H1;replace K1:=Lib.hid (KB0.out.trans K1 (fun y hy=>.inl hy)))
  refine bodyPost_ret (v:=.agg #[.int .i64 2,.int .i64 n]) (by simp [results,Try.results160,go_sem] <;> go_simp) rfl ?_
  exact give_of (b:=w.heap.size + 1) (by omega) (by first | omega | (simp;omega)) HH.out (rrm_ok H1.out rfl rfl rfl) (F1.out) z1.out zp.out hkx.out (K1.out) (by first | exact kp2 _ _ _ _ | exact kp2d _ _ _ _)
set_option maxRecDepth 100000 in
set_option maxHeartbeats 4000000 in
theorem giv3 (H : RH E w L h d Sv.run) (F : Fr E w L P m fr vs) (hl : fr.stk.length ≤ 1000) (a b c n : Int) (va : Value) :
    Calls Try.prog 160 #[.pointer (some ⟨E.hb,0,none⟩),.pointer (some ⟨P.cb,0,none⟩),.agg #[.int .i64 3,.int .i64 a,.int .i64 b,.int .i64 c,.int .i64 n,va]] w (GiveR E L P m d w (.ok ⟨3,(-1)⟩ h) fr):=by
  have hKX : ∀ k,KX E L P k → k < w.heap.size:=fun k hk=>by
    rcases hk with hk | hk | hk
    · exact (own_lo H.rows hk).2
    · rw [hk];exact F.cbw
    · rw [hk];exact F.lbw
  have HH:=Lib.hid H
  have hhb0 : E.hb < w.heap.size:=H.rows.base.2
  have hhb1 : E.hb < w.heap.size + 1:=by omega
  obtain ⟨Z,hZ⟩ : ∃ Z : Nat → Prop,Hid (Z = fun k=>P.Z k ∨ k = w.heap.size ∨ k = w.heap.size + 1):=⟨_,rfl⟩
  have HB0 : Below w.heap.size w ((w.alloc (.cells #[.int .i64 3,.int .i64 a,.int .i64 b,.int .i64 c,.int .i64 n,va] 63)).alloc (.cells #[.int .i64 0,.int .i64 0] 104)):=by exact Rd.byB
  have H0:=Lib.hid (H.below HB0)
  have F0:=Lib.hid (F.zone HB0 Z (fun k hk=>by rw [hZ.out] at hk;rcases hk with q | q | q;exact .inl q;exact .inr (by omega);exact .inr (by omega)) (fun k hk=>by rw [hZ.out] at hk;rcases hk with q | q | q;exact Nat.lt_of_lt_of_le (F.zlt k q) HB0.size;(simp;omega);(simp;omega)))
  have nx0 : ¬ KX E L (P.zone Z) w.heap.size:=fun hk=>by have:=hKX _ hk;omega
  have nx1 : ¬ KX E L (P.zone Z) (w.heap.size + 1):=fun hk=>by have:=hKX _ hk;omega
  have z1 : Hid (Z (w.heap.size + 1)):=by show Z _;rw [hZ.out];exact .inr (.inr rfl)
  have zp : Hid (∀ k,P.Z k → Z k):=fun k hk=>by rw [hZ.out];exact .inl hk
  have hkx:=Lib.hid hKX
  have KB0:=Lib.hid (kpB (X:=KX E L P) HB0)
  clear H F hZ HB0 hKX
  go_enter Try.func160,Try.ntmps160
  go_wp2_with (go_at_call 105;refine (take0R H0.out F0.out hl).mono ?_;rintro e w1 ⟨vt,vs1,rfl,V1,F1,H1,K1⟩;have i0:=K1.cell (c:=w.heap.size) (o:=0) (v:=.int .i64 3) (by go_simp) nx0;have i1:=K1.cell (c:=w.heap.size) (o:=1) (v:=.int .i64 a) (by go_simp) nx0;have i2:=K1.cell (c:=w.heap.size) (o:=2) (v:=.int .i64 b) (by go_simp) nx0;have i4:=K1.cell (c:=w.heap.size) (o:=4) (v:=.int .i64 n) (by go_simp) nx0;have r0:=K1.cell (c:=w.heap.size + 1) (o:=0) (v:=.int .i64 0) (by go_simp) nx1;have q0:=K1.frz (c:=w.heap.size + 1) (o:=0) (b:=false) (by go_simp) (by simp) nx1;have r1:=K1.cell (c:=w.heap.size + 1) (o:=1) (v:=.int .i64 0) (by go_simp) nx1;have q1:=K1.frz (c:=w.heap.size + 1) (o:=1) (b:=false) (by go_simp) (by simp) nx1;have hb1:=H1.rows.base.2;have hsz1 : w.heap.size + 1 < w1.heap.size:=(by have:=K1.size;simp at this;omega);have c12:=H1.c12;have f12:=H1.fz 12 (by decide);have f6:=H1.fz 6 (by decide);have c6:=H1.c6;replace V1:=Lib.hid V1;replace F1:=Lib.hid F1;replace H1:=Lib.hid H1;replace K1:=Lib.hid (KB0.out.trans K1 (fun y hy=>.inl hy)))
  refine bodyPost_ret (v:=.agg #[.int .i64 3,.int .i64 (-1)]) (by simp [results,Try.results160,go_sem] <;> go_simp) rfl ?_
  exact give_of (b:=w.heap.size + 1) (by omega) (by first | omega | (simp;omega)) HH.out (rrm_ok H1.out rfl rfl rfl) (F1.out) z1.out zp.out hkx.out (K1.out) (by first | exact kp2 _ _ _ _ | exact kp2d _ _ _ _)
set_option maxRecDepth 100000 in
set_option maxHeartbeats 4000000 in
theorem giv8S (H : RH E w L h d Sv.run) (F : Fr E w L P m fr vs) (hl : fr.stk.length ≤ 1000) (hn : fr.stk = []) (a b c n : Int) (va : Value) :
    Calls Try.prog 160 #[.pointer (some ⟨E.hb,0,none⟩),.pointer (some ⟨P.cb,0,none⟩),.agg #[.int .i64 8,.int .i64 a,.int .i64 b,.int .i64 c,.int .i64 n,va]] w (GiveR E L P m d w (.stop 6 h) fr):=by
  have hKX : ∀ k,KX E L P k → k < w.heap.size:=fun k hk=>by
    rcases hk with hk | hk | hk
    · exact (own_lo H.rows hk).2
    · rw [hk];exact F.cbw
    · rw [hk];exact F.lbw
  have HH:=Lib.hid H
  have hhb0 : E.hb < w.heap.size:=H.rows.base.2
  have hhb1 : E.hb < w.heap.size + 1:=by omega
  obtain ⟨Z,hZ⟩ : ∃ Z : Nat → Prop,Hid (Z = fun k=>P.Z k ∨ k = w.heap.size ∨ k = w.heap.size + 1):=⟨_,rfl⟩
  have HB0 : Below w.heap.size w ((w.alloc (.cells #[.int .i64 8,.int .i64 a,.int .i64 b,.int .i64 c,.int .i64 n,va] 63)).alloc (.cells #[.int .i64 0,.int .i64 0] 104)):=by exact Rd.byB
  have H0:=Lib.hid (H.below HB0)
  have F0:=Lib.hid (F.zone HB0 Z (fun k hk=>by rw [hZ.out] at hk;rcases hk with q | q | q;exact .inl q;exact .inr (by omega);exact .inr (by omega)) (fun k hk=>by rw [hZ.out] at hk;rcases hk with q | q | q;exact Nat.lt_of_lt_of_le (F.zlt k q) HB0.size;(simp;omega);(simp;omega)))
  have nx0 : ¬ KX E L (P.zone Z) w.heap.size:=fun hk=>by have:=hKX _ hk;omega
  have nx1 : ¬ KX E L (P.zone Z) (w.heap.size + 1):=fun hk=>by have:=hKX _ hk;omega
  have z1 : Hid (Z (w.heap.size + 1)):=by show Z _;rw [hZ.out];exact .inr (.inr rfl)
  have zp : Hid (∀ k,P.Z k → Z k):=fun k hk=>by rw [hZ.out];exact .inl hk
  have hkx:=Lib.hid hKX
  have KB0:=Lib.hid (kpB (X:=KX E L P) HB0)
  clear H F hZ HB0 hKX
  go_enter Try.func160,Try.ntmps160
  go_wp2_with (go_at_call 105;refine (take1S H0.out F0.out hn).mono ?_;rintro e w1 ⟨vt,vs1,rfl,V1,F1,H1,K1⟩;have i0:=K1.cell (c:=w.heap.size) (o:=0) (v:=.int .i64 8) (by go_simp) nx0;have i1:=K1.cell (c:=w.heap.size) (o:=1) (v:=.int .i64 a) (by go_simp) nx0;have i2:=K1.cell (c:=w.heap.size) (o:=2) (v:=.int .i64 b) (by go_simp) nx0;have i4:=K1.cell (c:=w.heap.size) (o:=4) (v:=.int .i64 n) (by go_simp) nx0;have r0:=K1.cell (c:=w.heap.size + 1) (o:=0) (v:=.int .i64 0) (by go_simp) nx1;have q0:=K1.frz (c:=w.heap.size + 1) (o:=0) (b:=false) (by go_simp) (by simp) nx1;have r1:=K1.cell (c:=w.heap.size + 1) (o:=1) (v:=.int .i64 0) (by go_simp) nx1;have q1:=K1.frz (c:=w.heap.size + 1) (o:=1) (b:=false) (by go_simp) (by simp) nx1;have hb1:=H1.rows.base.2;have hsz1 : w.heap.size + 1 < w1.heap.size:=(by have:=K1.size;simp at this;omega);have c12:=H1.c12;have f12:=H1.fz 12 (by decide);have f6:=H1.fz 6 (by decide);have c6:=H1.c6;replace V1:=Lib.hid V1;replace F1:=Lib.hid F1;replace H1:=Lib.hid H1;replace K1:=Lib.hid (KB0.out.trans K1 (fun y hy=>.inl hy)))
  refine bodyPost_ret (v:=.agg #[.int .i64 0,.int .i64 0]) (by simp [results,Try.results160,go_sem] <;> go_simp) rfl ?_
  exact give_of (b:=w.heap.size + 1) (by omega) (by first | omega | (simp;omega)) HH.out (rrm_stop H1.out (Kp.refl _ _) rfl) (F1.out) z1.out zp.out hkx.out (K1.out) (by first | exact kp2 _ _ _ _ | exact kp2d _ _ _ _)
set_option maxRecDepth 100000 in
set_option maxHeartbeats 4000000 in
theorem giv9S (H : RH E w L h d Sv.run) (F : Fr E w L P m fr vs) (hl : fr.stk.length ≤ 1000) (hn : fr.stk = []) (a b c n : Int) (va : Value) :
    Calls Try.prog 160 #[.pointer (some ⟨E.hb,0,none⟩),.pointer (some ⟨P.cb,0,none⟩),.agg #[.int .i64 9,.int .i64 a,.int .i64 b,.int .i64 c,.int .i64 n,va]] w (GiveR E L P m d w (.stop 6 h) fr):=by
  have hKX : ∀ k,KX E L P k → k < w.heap.size:=fun k hk=>by
    rcases hk with hk | hk | hk
    · exact (own_lo H.rows hk).2
    · rw [hk];exact F.cbw
    · rw [hk];exact F.lbw
  have HH:=Lib.hid H
  have hhb0 : E.hb < w.heap.size:=H.rows.base.2
  have hhb1 : E.hb < w.heap.size + 1:=by omega
  obtain ⟨Z,hZ⟩ : ∃ Z : Nat → Prop,Hid (Z = fun k=>P.Z k ∨ k = w.heap.size ∨ k = w.heap.size + 1):=⟨_,rfl⟩
  have HB0 : Below w.heap.size w ((w.alloc (.cells #[.int .i64 9,.int .i64 a,.int .i64 b,.int .i64 c,.int .i64 n,va] 63)).alloc (.cells #[.int .i64 0,.int .i64 0] 104)):=by exact Rd.byB
  have H0:=Lib.hid (H.below HB0)
  have F0:=Lib.hid (F.zone HB0 Z (fun k hk=>by rw [hZ.out] at hk;rcases hk with q | q | q;exact .inl q;exact .inr (by omega);exact .inr (by omega)) (fun k hk=>by rw [hZ.out] at hk;rcases hk with q | q | q;exact Nat.lt_of_lt_of_le (F.zlt k q) HB0.size;(simp;omega);(simp;omega)))
  have nx0 : ¬ KX E L (P.zone Z) w.heap.size:=fun hk=>by have:=hKX _ hk;omega
  have nx1 : ¬ KX E L (P.zone Z) (w.heap.size + 1):=fun hk=>by have:=hKX _ hk;omega
  have z1 : Hid (Z (w.heap.size + 1)):=by show Z _;rw [hZ.out];exact .inr (.inr rfl)
  have zp : Hid (∀ k,P.Z k → Z k):=fun k hk=>by rw [hZ.out];exact .inl hk
  have hkx:=Lib.hid hKX
  have KB0:=Lib.hid (kpB (X:=KX E L P) HB0)
  clear H F hZ HB0 hKX
  go_enter Try.func160,Try.ntmps160
  go_wp2_with (go_at_call 105;refine (take1S H0.out F0.out hn).mono ?_;rintro e w1 ⟨vt,vs1,rfl,V1,F1,H1,K1⟩;have i0:=K1.cell (c:=w.heap.size) (o:=0) (v:=.int .i64 9) (by go_simp) nx0;have i1:=K1.cell (c:=w.heap.size) (o:=1) (v:=.int .i64 a) (by go_simp) nx0;have i2:=K1.cell (c:=w.heap.size) (o:=2) (v:=.int .i64 b) (by go_simp) nx0;have i4:=K1.cell (c:=w.heap.size) (o:=4) (v:=.int .i64 n) (by go_simp) nx0;have r0:=K1.cell (c:=w.heap.size + 1) (o:=0) (v:=.int .i64 0) (by go_simp) nx1;have q0:=K1.frz (c:=w.heap.size + 1) (o:=0) (b:=false) (by go_simp) (by simp) nx1;have r1:=K1.cell (c:=w.heap.size + 1) (o:=1) (v:=.int .i64 0) (by go_simp) nx1;have q1:=K1.frz (c:=w.heap.size + 1) (o:=1) (b:=false) (by go_simp) (by simp) nx1;have hb1:=H1.rows.base.2;have hsz1 : w.heap.size + 1 < w1.heap.size:=(by have:=K1.size;simp at this;omega);have c12:=H1.c12;have f12:=H1.fz 12 (by decide);have f6:=H1.fz 6 (by decide);have c6:=H1.c6;replace V1:=Lib.hid V1;replace F1:=Lib.hid F1;replace H1:=Lib.hid H1;replace K1:=Lib.hid (KB0.out.trans K1 (fun y hy=>.inl hy)))
  refine bodyPost_ret (v:=.agg #[.int .i64 0,.int .i64 0]) (by simp [results,Try.results160,go_sem] <;> go_simp) rfl ?_
  exact give_of (b:=w.heap.size + 1) (by omega) (by first | omega | (simp;omega)) HH.out (rrm_stop H1.out (Kp.refl _ _) rfl) (F1.out) z1.out zp.out hkx.out (K1.out) (by first | exact kp2 _ _ _ _ | exact kp2d _ _ _ _)
set_option maxRecDepth 100000 in
set_option maxHeartbeats 4000000 in
theorem giv15S (H : RH E w L h d Sv.run) (F : Fr E w L P m fr vs) (hl : fr.stk.length ≤ 1000) (hn : fr.stk = []) (a b c n : Int) (va : Value) :
    Calls Try.prog 160 #[.pointer (some ⟨E.hb,0,none⟩),.pointer (some ⟨P.cb,0,none⟩),.agg #[.int .i64 15,.int .i64 a,.int .i64 b,.int .i64 c,.int .i64 n,va]] w (GiveR E L P m d w (.stop 6 h) fr):=by
  have hKX : ∀ k,KX E L P k → k < w.heap.size:=fun k hk=>by
    rcases hk with hk | hk | hk
    · exact (own_lo H.rows hk).2
    · rw [hk];exact F.cbw
    · rw [hk];exact F.lbw
  have HH:=Lib.hid H
  have hhb0 : E.hb < w.heap.size:=H.rows.base.2
  have hhb1 : E.hb < w.heap.size + 1:=by omega
  obtain ⟨Z,hZ⟩ : ∃ Z : Nat → Prop,Hid (Z = fun k=>P.Z k ∨ k = w.heap.size ∨ k = w.heap.size + 1):=⟨_,rfl⟩
  have HB0 : Below w.heap.size w ((w.alloc (.cells #[.int .i64 15,.int .i64 a,.int .i64 b,.int .i64 c,.int .i64 n,va] 63)).alloc (.cells #[.int .i64 0,.int .i64 0] 104)):=by exact Rd.byB
  have H0:=Lib.hid (H.below HB0)
  have F0:=Lib.hid (F.zone HB0 Z (fun k hk=>by rw [hZ.out] at hk;rcases hk with q | q | q;exact .inl q;exact .inr (by omega);exact .inr (by omega)) (fun k hk=>by rw [hZ.out] at hk;rcases hk with q | q | q;exact Nat.lt_of_lt_of_le (F.zlt k q) HB0.size;(simp;omega);(simp;omega)))
  have nx0 : ¬ KX E L (P.zone Z) w.heap.size:=fun hk=>by have:=hKX _ hk;omega
  have nx1 : ¬ KX E L (P.zone Z) (w.heap.size + 1):=fun hk=>by have:=hKX _ hk;omega
  have z1 : Hid (Z (w.heap.size + 1)):=by show Z _;rw [hZ.out];exact .inr (.inr rfl)
  have zp : Hid (∀ k,P.Z k → Z k):=fun k hk=>by rw [hZ.out];exact .inl hk
  have hkx:=Lib.hid hKX
  have KB0:=Lib.hid (kpB (X:=KX E L P) HB0)
  clear H F hZ HB0 hKX
  go_enter Try.func160,Try.ntmps160
  go_wp2_with (go_at_call 105;refine (take1S H0.out F0.out hn).mono ?_;rintro e w1 ⟨vt,vs1,rfl,V1,F1,H1,K1⟩;have i0:=K1.cell (c:=w.heap.size) (o:=0) (v:=.int .i64 15) (by go_simp) nx0;have i1:=K1.cell (c:=w.heap.size) (o:=1) (v:=.int .i64 a) (by go_simp) nx0;have i2:=K1.cell (c:=w.heap.size) (o:=2) (v:=.int .i64 b) (by go_simp) nx0;have i4:=K1.cell (c:=w.heap.size) (o:=4) (v:=.int .i64 n) (by go_simp) nx0;have r0:=K1.cell (c:=w.heap.size + 1) (o:=0) (v:=.int .i64 0) (by go_simp) nx1;have q0:=K1.frz (c:=w.heap.size + 1) (o:=0) (b:=false) (by go_simp) (by simp) nx1;have r1:=K1.cell (c:=w.heap.size + 1) (o:=1) (v:=.int .i64 0) (by go_simp) nx1;have q1:=K1.frz (c:=w.heap.size + 1) (o:=1) (b:=false) (by go_simp) (by simp) nx1;have hb1:=H1.rows.base.2;have hsz1 : w.heap.size + 1 < w1.heap.size:=(by have:=K1.size;simp at this;omega);have c12:=H1.c12;have f12:=H1.fz 12 (by decide);have f6:=H1.fz 6 (by decide);have c6:=H1.c6;replace V1:=Lib.hid V1;replace F1:=Lib.hid F1;replace H1:=Lib.hid H1;replace K1:=Lib.hid (KB0.out.trans K1 (fun y hy=>.inl hy)))
  refine bodyPost_ret (v:=.agg #[.int .i64 0,.int .i64 0]) (by simp [results,Try.results160,go_sem] <;> go_simp) rfl ?_
  exact give_of (b:=w.heap.size + 1) (by omega) (by first | omega | (simp;omega)) HH.out (rrm_stop H1.out (Kp.refl _ _) rfl) (F1.out) z1.out zp.out hkx.out (K1.out) (by first | exact kp2 _ _ _ _ | exact kp2d _ _ _ _)
set_option maxRecDepth 100000 in
set_option maxHeartbeats 4000000 in
theorem giv17S (H : RH E w L h d Sv.run) (F : Fr E w L P m fr vs) (hl : fr.stk.length ≤ 1000) (hn : fr.stk = []) (a b c n : Int) (va : Value) :
    Calls Try.prog 160 #[.pointer (some ⟨E.hb,0,none⟩),.pointer (some ⟨P.cb,0,none⟩),.agg #[.int .i64 17,.int .i64 a,.int .i64 b,.int .i64 c,.int .i64 n,va]] w (GiveR E L P m d w (.stop 6 h) fr):=by
  have hKX : ∀ k,KX E L P k → k < w.heap.size:=fun k hk=>by
    rcases hk with hk | hk | hk
    · exact (own_lo H.rows hk).2
    · rw [hk];exact F.cbw
    · rw [hk];exact F.lbw
  have HH:=Lib.hid H
  have hhb0 : E.hb < w.heap.size:=H.rows.base.2
  have hhb1 : E.hb < w.heap.size + 1:=by omega
  obtain ⟨Z,hZ⟩ : ∃ Z : Nat → Prop,Hid (Z = fun k=>P.Z k ∨ k = w.heap.size ∨ k = w.heap.size + 1):=⟨_,rfl⟩
  have HB0 : Below w.heap.size w ((w.alloc (.cells #[.int .i64 17,.int .i64 a,.int .i64 b,.int .i64 c,.int .i64 n,va] 63)).alloc (.cells #[.int .i64 0,.int .i64 0] 104)):=by exact Rd.byB
  have H0:=Lib.hid (H.below HB0)
  have F0:=Lib.hid (F.zone HB0 Z (fun k hk=>by rw [hZ.out] at hk;rcases hk with q | q | q;exact .inl q;exact .inr (by omega);exact .inr (by omega)) (fun k hk=>by rw [hZ.out] at hk;rcases hk with q | q | q;exact Nat.lt_of_lt_of_le (F.zlt k q) HB0.size;(simp;omega);(simp;omega)))
  have nx0 : ¬ KX E L (P.zone Z) w.heap.size:=fun hk=>by have:=hKX _ hk;omega
  have nx1 : ¬ KX E L (P.zone Z) (w.heap.size + 1):=fun hk=>by have:=hKX _ hk;omega
  have z1 : Hid (Z (w.heap.size + 1)):=by show Z _;rw [hZ.out];exact .inr (.inr rfl)
  have zp : Hid (∀ k,P.Z k → Z k):=fun k hk=>by rw [hZ.out];exact .inl hk
  have hkx:=Lib.hid hKX
  have KB0:=Lib.hid (kpB (X:=KX E L P) HB0)
  clear H F hZ HB0 hKX
  go_enter Try.func160,Try.ntmps160
  go_wp2_with (go_at_call 105;refine (take1S H0.out F0.out hn).mono ?_;rintro e w1 ⟨vt,vs1,rfl,V1,F1,H1,K1⟩;have i0:=K1.cell (c:=w.heap.size) (o:=0) (v:=.int .i64 17) (by go_simp) nx0;have i1:=K1.cell (c:=w.heap.size) (o:=1) (v:=.int .i64 a) (by go_simp) nx0;have i2:=K1.cell (c:=w.heap.size) (o:=2) (v:=.int .i64 b) (by go_simp) nx0;have i4:=K1.cell (c:=w.heap.size) (o:=4) (v:=.int .i64 n) (by go_simp) nx0;have r0:=K1.cell (c:=w.heap.size + 1) (o:=0) (v:=.int .i64 0) (by go_simp) nx1;have q0:=K1.frz (c:=w.heap.size + 1) (o:=0) (b:=false) (by go_simp) (by simp) nx1;have r1:=K1.cell (c:=w.heap.size + 1) (o:=1) (v:=.int .i64 0) (by go_simp) nx1;have q1:=K1.frz (c:=w.heap.size + 1) (o:=1) (b:=false) (by go_simp) (by simp) nx1;have hb1:=H1.rows.base.2;have hsz1 : w.heap.size + 1 < w1.heap.size:=(by have:=K1.size;simp at this;omega);have c12:=H1.c12;have f12:=H1.fz 12 (by decide);have f6:=H1.fz 6 (by decide);have c6:=H1.c6;replace V1:=Lib.hid V1;replace F1:=Lib.hid F1;replace H1:=Lib.hid H1;replace K1:=Lib.hid (KB0.out.trans K1 (fun y hy=>.inl hy)))
  refine bodyPost_ret (v:=.agg #[.int .i64 0,.int .i64 0]) (by simp [results,Try.results160,go_sem] <;> go_simp) rfl ?_
  exact give_of (b:=w.heap.size + 1) (by omega) (by first | omega | (simp;omega)) HH.out (rrm_stop H1.out (Kp.refl _ _) rfl) (F1.out) z1.out zp.out hkx.out (K1.out) (by first | exact kp2 _ _ _ _ | exact kp2d _ _ _ _)
set_option maxRecDepth 100000 in
set_option maxHeartbeats 4000000 in
theorem giv18S (H : RH E w L h d Sv.run) (F : Fr E w L P m fr vs) (hl : fr.stk.length ≤ 1000) (hn : fr.stk = []) (a b c n : Int) (va : Value) :
    Calls Try.prog 160 #[.pointer (some ⟨E.hb,0,none⟩),.pointer (some ⟨P.cb,0,none⟩),.agg #[.int .i64 18,.int .i64 a,.int .i64 b,.int .i64 c,.int .i64 n,va]] w (GiveR E L P m d w (.stop 6 h) fr):=by
  have hKX : ∀ k,KX E L P k → k < w.heap.size:=fun k hk=>by
    rcases hk with hk | hk | hk
    · exact (own_lo H.rows hk).2
    · rw [hk];exact F.cbw
    · rw [hk];exact F.lbw
  have HH:=Lib.hid H
  have hhb0 : E.hb < w.heap.size:=H.rows.base.2
  have hhb1 : E.hb < w.heap.size + 1:=by omega
  obtain ⟨Z,hZ⟩ : ∃ Z : Nat → Prop,Hid (Z = fun k=>P.Z k ∨ k = w.heap.size ∨ k = w.heap.size + 1):=⟨_,rfl⟩
  have HB0 : Below w.heap.size w ((w.alloc (.cells #[.int .i64 18,.int .i64 a,.int .i64 b,.int .i64 c,.int .i64 n,va] 63)).alloc (.cells #[.int .i64 0,.int .i64 0] 104)):=by exact Rd.byB
  have H0:=Lib.hid (H.below HB0)
  have F0:=Lib.hid (F.zone HB0 Z (fun k hk=>by rw [hZ.out] at hk;rcases hk with q | q | q;exact .inl q;exact .inr (by omega);exact .inr (by omega)) (fun k hk=>by rw [hZ.out] at hk;rcases hk with q | q | q;exact Nat.lt_of_lt_of_le (F.zlt k q) HB0.size;(simp;omega);(simp;omega)))
  have nx0 : ¬ KX E L (P.zone Z) w.heap.size:=fun hk=>by have:=hKX _ hk;omega
  have nx1 : ¬ KX E L (P.zone Z) (w.heap.size + 1):=fun hk=>by have:=hKX _ hk;omega
  have z1 : Hid (Z (w.heap.size + 1)):=by show Z _;rw [hZ.out];exact .inr (.inr rfl)
  have zp : Hid (∀ k,P.Z k → Z k):=fun k hk=>by rw [hZ.out];exact .inl hk
  have hkx:=Lib.hid hKX
  have KB0:=Lib.hid (kpB (X:=KX E L P) HB0)
  clear H F hZ HB0 hKX
  go_enter Try.func160,Try.ntmps160
  go_wp2_with (go_at_call 105;refine (take1S H0.out F0.out hn).mono ?_;rintro e w1 ⟨vt,vs1,rfl,V1,F1,H1,K1⟩;have i0:=K1.cell (c:=w.heap.size) (o:=0) (v:=.int .i64 18) (by go_simp) nx0;have i1:=K1.cell (c:=w.heap.size) (o:=1) (v:=.int .i64 a) (by go_simp) nx0;have i2:=K1.cell (c:=w.heap.size) (o:=2) (v:=.int .i64 b) (by go_simp) nx0;have i4:=K1.cell (c:=w.heap.size) (o:=4) (v:=.int .i64 n) (by go_simp) nx0;have r0:=K1.cell (c:=w.heap.size + 1) (o:=0) (v:=.int .i64 0) (by go_simp) nx1;have q0:=K1.frz (c:=w.heap.size + 1) (o:=0) (b:=false) (by go_simp) (by simp) nx1;have r1:=K1.cell (c:=w.heap.size + 1) (o:=1) (v:=.int .i64 0) (by go_simp) nx1;have q1:=K1.frz (c:=w.heap.size + 1) (o:=1) (b:=false) (by go_simp) (by simp) nx1;have hb1:=H1.rows.base.2;have hsz1 : w.heap.size + 1 < w1.heap.size:=(by have:=K1.size;simp at this;omega);have c12:=H1.c12;have f12:=H1.fz 12 (by decide);have f6:=H1.fz 6 (by decide);have c6:=H1.c6;replace V1:=Lib.hid V1;replace F1:=Lib.hid F1;replace H1:=Lib.hid H1;replace K1:=Lib.hid (KB0.out.trans K1 (fun y hy=>.inl hy)))
  refine bodyPost_ret (v:=.agg #[.int .i64 0,.int .i64 0]) (by simp [results,Try.results160,go_sem] <;> go_simp) rfl ?_
  exact give_of (b:=w.heap.size + 1) (by omega) (by first | omega | (simp;omega)) HH.out (rrm_stop H1.out (Kp.refl _ _) rfl) (F1.out) z1.out zp.out hkx.out (K1.out) (by first | exact kp2 _ _ _ _ | exact kp2d _ _ _ _)
end
end Rhw
end Go.Proofs.Ytncmhenfgbcihab
namespace Go.Proofs.Ytncmhenfgbcihab
open Go.RowKit
set_option linter.unusedSimpArgs false
set_option linter.unusedVariables false
namespace Rhw
open Num Rd D Run Mem HierW Hpw
section
variable {E : Ev} {w w' : World} {L L' : RL} {h h' : Hp} {d : Nat} {s : Sv} {P : Pl} {m : Me} {fr : Sf} {vs : Value}
set_option maxRecDepth 100000 in
set_option maxHeartbeats 4000000 in
theorem giv6S (H : RH E w L h d Sv.run) (F : Fr E w L P m fr vs) (hl : fr.stk.length ≤ 1000) (hn : fr.stk = [] ∨ fr.stk.dropLast = []) (a b c n : Int) (va : Value) :
    Calls Try.prog 160 #[.pointer (some ⟨E.hb,0,none⟩),.pointer (some ⟨P.cb,0,none⟩),.agg #[.int .i64 6,.int .i64 a,.int .i64 b,.int .i64 c,.int .i64 n,va]] w (GiveR E L P m d w (.stop 6 h) fr):=by
  have hKX : ∀ k,KX E L P k → k < w.heap.size:=fun k hk=>by
    rcases hk with hk | hk | hk
    · exact (own_lo H.rows hk).2
    · rw [hk];exact F.cbw
    · rw [hk];exact F.lbw
  have HH:=Lib.hid H
  have hhb0 : E.hb < w.heap.size:=H.rows.base.2
  have hhb1 : E.hb < w.heap.size + 1:=by omega
  obtain ⟨Z,hZ⟩ : ∃ Z : Nat → Prop,Hid (Z = fun k=>P.Z k ∨ k = w.heap.size ∨ k = w.heap.size + 1):=⟨_,rfl⟩
  have HB0 : Below w.heap.size w ((w.alloc (.cells #[.int .i64 6,.int .i64 a,.int .i64 b,.int .i64 c,.int .i64 n,va] 63)).alloc (.cells #[.int .i64 0,.int .i64 0] 104)):=by exact Rd.byB
  have H0:=Lib.hid (H.below HB0)
  have F0:=Lib.hid (F.zone HB0 Z (fun k hk=>by rw [hZ.out] at hk;rcases hk with q | q | q;exact .inl q;exact .inr (by omega);exact .inr (by omega)) (fun k hk=>by rw [hZ.out] at hk;rcases hk with q | q | q;exact Nat.lt_of_lt_of_le (F.zlt k q) HB0.size;(simp;omega);(simp;omega)))
  have nx0 : ¬ KX E L (P.zone Z) w.heap.size:=fun hk=>by have:=hKX _ hk;omega
  have nx1 : ¬ KX E L (P.zone Z) (w.heap.size + 1):=fun hk=>by have:=hKX _ hk;omega
  have z1 : Hid (Z (w.heap.size + 1)):=by show Z _;rw [hZ.out];exact .inr (.inr rfl)
  have zp : Hid (∀ k,P.Z k → Z k):=fun k hk=>by rw [hZ.out];exact .inl hk
  have hkx:=Lib.hid hKX
  have KB0:=Lib.hid (kpB (X:=KX E L P) HB0)
  clear H F hZ HB0 hKX
  go_enter Try.func160,Try.ntmps160
  go_wp2_with (go_at_call 105;refine (take2S H0.out F0.out hn).mono ?_;rintro e w1 ⟨vt,vs1,rfl,V1,F1,H1,K1⟩;have i0:=K1.cell (c:=w.heap.size) (o:=0) (v:=.int .i64 6) (by go_simp) nx0;have i1:=K1.cell (c:=w.heap.size) (o:=1) (v:=.int .i64 a) (by go_simp) nx0;have i2:=K1.cell (c:=w.heap.size) (o:=2) (v:=.int .i64 b) (by go_simp) nx0;have i4:=K1.cell (c:=w.heap.size) (o:=4) (v:=.int .i64 n) (by go_simp) nx0;have r0:=K1.cell (c:=w.heap.size + 1) (o:=0) (v:=.int .i64 0) (by go_simp) nx1;have q0:=K1.frz (c:=w.heap.size + 1) (o:=0) (b:=false) (by go_simp) (by simp) nx1;have r1:=K1.cell (c:=w.heap.size + 1) (o:=1) (v:=.int .i64 0) (by go_simp) nx1;have q1:=K1.frz (c:=w.heap.size + 1) (o:=1) (b:=false) (by go_simp) (by simp) nx1;have hb1:=H1.rows.base.2;have hsz1 : w.heap.size + 1 < w1.heap.size:=(by have:=K1.size;simp at this;omega);have c12:=H1.c12;have f12:=H1.fz 12 (by decide);have f6:=H1.fz 6 (by decide);have c6:=H1.c6;replace V1:=Lib.hid V1;replace F1:=Lib.hid F1;replace H1:=Lib.hid H1;replace K1:=Lib.hid (KB0.out.trans K1 (fun y hy=>.inl hy)))
  refine bodyPost_ret (v:=.agg #[.int .i64 0,.int .i64 0]) (by simp [results,Try.results160,go_sem] <;> go_simp) rfl ?_
  exact give_of (b:=w.heap.size + 1) (by omega) (by first | omega | (simp;omega)) HH.out (rrm_stop H1.out (Kp.refl _ _) rfl) (F1.out) z1.out zp.out hkx.out (K1.out) (by first | exact kp2 _ _ _ _ | exact kp2d _ _ _ _)
set_option maxRecDepth 100000 in
set_option maxHeartbeats 4000000 in
theorem giv7S (H : RH E w L h d Sv.run) (F : Fr E w L P m fr vs) (hl : fr.stk.length ≤ 1000) (hn : fr.stk = [] ∨ fr.stk.dropLast = []) (a b c n : Int) (va : Value) :
    Calls Try.prog 160 #[.pointer (some ⟨E.hb,0,none⟩),.pointer (some ⟨P.cb,0,none⟩),.agg #[.int .i64 7,.int .i64 a,.int .i64 b,.int .i64 c,.int .i64 n,va]] w (GiveR E L P m d w (.stop 6 h) fr):=by
  have hKX : ∀ k,KX E L P k → k < w.heap.size:=fun k hk=>by
    rcases hk with hk | hk | hk
    · exact (own_lo H.rows hk).2
    · rw [hk];exact F.cbw
    · rw [hk];exact F.lbw
  have HH:=Lib.hid H
  have hhb0 : E.hb < w.heap.size:=H.rows.base.2
  have hhb1 : E.hb < w.heap.size + 1:=by omega
  obtain ⟨Z,hZ⟩ : ∃ Z : Nat → Prop,Hid (Z = fun k=>P.Z k ∨ k = w.heap.size ∨ k = w.heap.size + 1):=⟨_,rfl⟩
  have HB0 : Below w.heap.size w ((w.alloc (.cells #[.int .i64 7,.int .i64 a,.int .i64 b,.int .i64 c,.int .i64 n,va] 63)).alloc (.cells #[.int .i64 0,.int .i64 0] 104)):=by exact Rd.byB
  have H0:=Lib.hid (H.below HB0)
  have F0:=Lib.hid (F.zone HB0 Z (fun k hk=>by rw [hZ.out] at hk;rcases hk with q | q | q;exact .inl q;exact .inr (by omega);exact .inr (by omega)) (fun k hk=>by rw [hZ.out] at hk;rcases hk with q | q | q;exact Nat.lt_of_lt_of_le (F.zlt k q) HB0.size;(simp;omega);(simp;omega)))
  have nx0 : ¬ KX E L (P.zone Z) w.heap.size:=fun hk=>by have:=hKX _ hk;omega
  have nx1 : ¬ KX E L (P.zone Z) (w.heap.size + 1):=fun hk=>by have:=hKX _ hk;omega
  have z1 : Hid (Z (w.heap.size + 1)):=by show Z _;rw [hZ.out];exact .inr (.inr rfl)
  have zp : Hid (∀ k,P.Z k → Z k):=fun k hk=>by rw [hZ.out];exact .inl hk
  have hkx:=Lib.hid hKX
  have KB0:=Lib.hid (kpB (X:=KX E L P) HB0)
  clear H F hZ HB0 hKX
  go_enter Try.func160,Try.ntmps160
  go_wp2_with (go_at_call 105;refine (take2S H0.out F0.out hn).mono ?_;rintro e w1 ⟨vt,vs1,rfl,V1,F1,H1,K1⟩;have i0:=K1.cell (c:=w.heap.size) (o:=0) (v:=.int .i64 7) (by go_simp) nx0;have i1:=K1.cell (c:=w.heap.size) (o:=1) (v:=.int .i64 a) (by go_simp) nx0;have i2:=K1.cell (c:=w.heap.size) (o:=2) (v:=.int .i64 b) (by go_simp) nx0;have i4:=K1.cell (c:=w.heap.size) (o:=4) (v:=.int .i64 n) (by go_simp) nx0;have r0:=K1.cell (c:=w.heap.size + 1) (o:=0) (v:=.int .i64 0) (by go_simp) nx1;have q0:=K1.frz (c:=w.heap.size + 1) (o:=0) (b:=false) (by go_simp) (by simp) nx1;have r1:=K1.cell (c:=w.heap.size + 1) (o:=1) (v:=.int .i64 0) (by go_simp) nx1;have q1:=K1.frz (c:=w.heap.size + 1) (o:=1) (b:=false) (by go_simp) (by simp) nx1;have hb1:=H1.rows.base.2;have hsz1 : w.heap.size + 1 < w1.heap.size:=(by have:=K1.size;simp at this;omega);have c12:=H1.c12;have f12:=H1.fz 12 (by decide);have f6:=H1.fz 6 (by decide);have c6:=H1.c6;replace V1:=Lib.hid V1;replace F1:=Lib.hid F1;replace H1:=Lib.hid H1;replace K1:=Lib.hid (KB0.out.trans K1 (fun y hy=>.inl hy)))
  refine bodyPost_ret (v:=.agg #[.int .i64 0,.int .i64 0]) (by simp [results,Try.results160,go_sem] <;> go_simp) rfl ?_
  exact give_of (b:=w.heap.size + 1) (by omega) (by first | omega | (simp;omega)) HH.out (rrm_stop H1.out (Kp.refl _ _) rfl) (F1.out) z1.out zp.out hkx.out (K1.out) (by first | exact kp2 _ _ _ _ | exact kp2d _ _ _ _)
set_option maxRecDepth 100000 in
set_option maxHeartbeats 4000000 in
theorem giv10S (H : RH E w L h d Sv.run) (F : Fr E w L P m fr vs) (hl : fr.stk.length ≤ 1000) (hn : fr.stk = [] ∨ fr.stk.dropLast = []) (a b c n : Int) (va : Value) :
    Calls Try.prog 160 #[.pointer (some ⟨E.hb,0,none⟩),.pointer (some ⟨P.cb,0,none⟩),.agg #[.int .i64 10,.int .i64 a,.int .i64 b,.int .i64 c,.int .i64 n,va]] w (GiveR E L P m d w (.stop 6 h) fr):=by
  have hKX : ∀ k,KX E L P k → k < w.heap.size:=fun k hk=>by
    rcases hk with hk | hk | hk
    · exact (own_lo H.rows hk).2
    · rw [hk];exact F.cbw
    · rw [hk];exact F.lbw
  have HH:=Lib.hid H
  have hhb0 : E.hb < w.heap.size:=H.rows.base.2
  have hhb1 : E.hb < w.heap.size + 1:=by omega
  obtain ⟨Z,hZ⟩ : ∃ Z : Nat → Prop,Hid (Z = fun k=>P.Z k ∨ k = w.heap.size ∨ k = w.heap.size + 1):=⟨_,rfl⟩
  have HB0 : Below w.heap.size w ((w.alloc (.cells #[.int .i64 10,.int .i64 a,.int .i64 b,.int .i64 c,.int .i64 n,va] 63)).alloc (.cells #[.int .i64 0,.int .i64 0] 104)):=by exact Rd.byB
  have H0:=Lib.hid (H.below HB0)
  have F0:=Lib.hid (F.zone HB0 Z (fun k hk=>by rw [hZ.out] at hk;rcases hk with q | q | q;exact .inl q;exact .inr (by omega);exact .inr (by omega)) (fun k hk=>by rw [hZ.out] at hk;rcases hk with q | q | q;exact Nat.lt_of_lt_of_le (F.zlt k q) HB0.size;(simp;omega);(simp;omega)))
  have nx0 : ¬ KX E L (P.zone Z) w.heap.size:=fun hk=>by have:=hKX _ hk;omega
  have nx1 : ¬ KX E L (P.zone Z) (w.heap.size + 1):=fun hk=>by have:=hKX _ hk;omega
  have z1 : Hid (Z (w.heap.size + 1)):=by show Z _;rw [hZ.out];exact .inr (.inr rfl)
  have zp : Hid (∀ k,P.Z k → Z k):=fun k hk=>by rw [hZ.out];exact .inl hk
  have hkx:=Lib.hid hKX
  have KB0:=Lib.hid (kpB (X:=KX E L P) HB0)
  clear H F hZ HB0 hKX
  go_enter Try.func160,Try.ntmps160
  go_wp2_with (go_at_call 105;refine (take2S H0.out F0.out hn).mono ?_;rintro e w1 ⟨vt,vs1,rfl,V1,F1,H1,K1⟩;have i0:=K1.cell (c:=w.heap.size) (o:=0) (v:=.int .i64 10) (by go_simp) nx0;have i1:=K1.cell (c:=w.heap.size) (o:=1) (v:=.int .i64 a) (by go_simp) nx0;have i2:=K1.cell (c:=w.heap.size) (o:=2) (v:=.int .i64 b) (by go_simp) nx0;have i4:=K1.cell (c:=w.heap.size) (o:=4) (v:=.int .i64 n) (by go_simp) nx0;have r0:=K1.cell (c:=w.heap.size + 1) (o:=0) (v:=.int .i64 0) (by go_simp) nx1;have q0:=K1.frz (c:=w.heap.size + 1) (o:=0) (b:=false) (by go_simp) (by simp) nx1;have r1:=K1.cell (c:=w.heap.size + 1) (o:=1) (v:=.int .i64 0) (by go_simp) nx1;have q1:=K1.frz (c:=w.heap.size + 1) (o:=1) (b:=false) (by go_simp) (by simp) nx1;have hb1:=H1.rows.base.2;have hsz1 : w.heap.size + 1 < w1.heap.size:=(by have:=K1.size;simp at this;omega);have c12:=H1.c12;have f12:=H1.fz 12 (by decide);have f6:=H1.fz 6 (by decide);have c6:=H1.c6;replace V1:=Lib.hid V1;replace F1:=Lib.hid F1;replace H1:=Lib.hid H1;replace K1:=Lib.hid (KB0.out.trans K1 (fun y hy=>.inl hy)))
  refine bodyPost_ret (v:=.agg #[.int .i64 0,.int .i64 0]) (by simp [results,Try.results160,go_sem] <;> go_simp) rfl ?_
  exact give_of (b:=w.heap.size + 1) (by omega) (by first | omega | (simp;omega)) HH.out (rrm_stop H1.out (Kp.refl _ _) rfl) (F1.out) z1.out zp.out hkx.out (K1.out) (by first | exact kp2 _ _ _ _ | exact kp2d _ _ _ _)
set_option maxRecDepth 100000 in
set_option maxHeartbeats 4000000 in
theorem giv8 (H : RH E w L h d Sv.run) (F : Fr E w L P m fr vs) (hl : fr.stk.length ≤ 1000) (hn : fr.stk ≠ []) (a b c n : Int) (va : Value) :
    Calls Try.prog 160 #[.pointer (some ⟨E.hb,0,none⟩),.pointer (some ⟨P.cb,0,none⟩),.agg #[.int .i64 8,.int .i64 a,.int .i64 b,.int .i64 c,.int .i64 n,va]] w (GiveR E L P m d w (if (top fr.stk).kind = 1 then .ok ⟨2,(top fr.stk).n⟩ h else .stop 6 h) ⟨fr.loc,fr.stk.dropLast,fr.at_⟩):=by
  have hKX : ∀ k,KX E L P k → k < w.heap.size:=fun k hk=>by
    rcases hk with hk | hk | hk
    · exact (own_lo H.rows hk).2
    · rw [hk];exact F.cbw
    · rw [hk];exact F.lbw
  have HH:=Lib.hid H
  have hhb0 : E.hb < w.heap.size:=H.rows.base.2
  have hhb1 : E.hb < w.heap.size + 1:=by omega
  obtain ⟨Z,hZ⟩ : ∃ Z : Nat → Prop,Hid (Z = fun k=>P.Z k ∨ k = w.heap.size ∨ k = w.heap.size + 1):=⟨_,rfl⟩
  have HB0 : Below w.heap.size w ((w.alloc (.cells #[.int .i64 8,.int .i64 a,.int .i64 b,.int .i64 c,.int .i64 n,va] 63)).alloc (.cells #[.int .i64 0,.int .i64 0] 104)):=by exact Rd.byB
  have H0:=Lib.hid (H.below HB0)
  have F0:=Lib.hid (F.zone HB0 Z (fun k hk=>by rw [hZ.out] at hk;rcases hk with q | q | q;exact .inl q;exact .inr (by omega);exact .inr (by omega)) (fun k hk=>by rw [hZ.out] at hk;rcases hk with q | q | q;exact Nat.lt_of_lt_of_le (F.zlt k q) HB0.size;(simp;omega);(simp;omega)))
  have nx0 : ¬ KX E L (P.zone Z) w.heap.size:=fun hk=>by have:=hKX _ hk;omega
  have nx1 : ¬ KX E L (P.zone Z) (w.heap.size + 1):=fun hk=>by have:=hKX _ hk;omega
  have z1 : Hid (Z (w.heap.size + 1)):=by show Z _;rw [hZ.out];exact .inr (.inr rfl)
  have zp : Hid (∀ k,P.Z k → Z k):=fun k hk=>by rw [hZ.out];exact .inl hk
  have hkx:=Lib.hid hKX
  have KB0:=Lib.hid (kpB (X:=KX E L P) HB0)
  clear H F hZ HB0 hKX
  obtain ⟨v,hv⟩ : ∃ v,Hid (top fr.stk = v):=⟨_,rfl⟩
  rw [hv.out]
  by_cases q : v.kind = 1
  · have qb : (v.kind == 1) = true:=by simpa using q
    rw [if_pos q]
    clear q
    go_enter Try.func160,Try.ntmps160
    go_wp2_with (first | (go_at_call 105;refine (take1R H0.out F0.out hn hl).mono ?_;rintro e w1 ⟨vt,vs1,rfl,V1,F1,H1,K1⟩;have i0:=K1.cell (c:=w.heap.size) (o:=0) (v:=.int .i64 8) (by go_simp) nx0;have i1:=K1.cell (c:=w.heap.size) (o:=1) (v:=.int .i64 a) (by go_simp) nx0;have i2:=K1.cell (c:=w.heap.size) (o:=2) (v:=.int .i64 b) (by go_simp) nx0;have i4:=K1.cell (c:=w.heap.size) (o:=4) (v:=.int .i64 n) (by go_simp) nx0;have r0:=K1.cell (c:=w.heap.size + 1) (o:=0) (v:=.int .i64 0) (by go_simp) nx1;have q0:=K1.frz (c:=w.heap.size + 1) (o:=0) (b:=false) (by go_simp) (by simp) nx1;have r1:=K1.cell (c:=w.heap.size + 1) (o:=1) (v:=.int .i64 0) (by go_simp) nx1;have q1:=K1.frz (c:=w.heap.size + 1) (o:=1) (b:=false) (by go_simp) (by simp) nx1;obtain ⟨vb,vo,vcap,rfl,v1,v2,v3,v4,v5,v6⟩:=VS.one V1;rw [hv.out] at v5 v6;have vne:=vs_ne v4;have vne2:=vne.symm;have hb1:=H1.rows.base.2;have hsz1 : w.heap.size + 1 < w1.heap.size:=(by have:=K1.size;simp at this;omega);have c12:=H1.c12;have f12:=H1.fz 12 (by decide);have f6:=H1.fz 6 (by decide);have c6:=H1.c6;replace V1:=Lib.hid V1;replace F1:=Lib.hid F1;replace H1:=Lib.hid H1;replace K1:=Lib.hid (KB0.out.trans K1 (fun y hy=>.inl hy))) | (go_at_call 104;refine (mustT H1.out rfl).mono ?_;rintro e w2 ⟨rfl,rfl⟩))
    refine bodyPost_ret (v:=.agg #[.int .i64 2,.int .i64 v.n]) (by simp [results,Try.results160,go_sem] <;> go_simp) rfl ?_
    exact give_of (b:=w.heap.size + 1) (by omega) (by first | omega | (simp;omega)) HH.out (rrm_ok H1.out rfl rfl rfl) (F1.out) z1.out zp.out hkx.out (K1.out) (by first | exact kp2 _ _ _ _ | exact kp2d _ _ _ _)
  · have qb : (v.kind == 1) = false:=by simpa using q
    rw [if_neg q]
    clear q
    go_enter Try.func160,Try.ntmps160
    go_wp2_with (first | (go_at_call 105;refine (take1R H0.out F0.out hn hl).mono ?_;rintro e w1 ⟨vt,vs1,rfl,V1,F1,H1,K1⟩;have i0:=K1.cell (c:=w.heap.size) (o:=0) (v:=.int .i64 8) (by go_simp) nx0;have i1:=K1.cell (c:=w.heap.size) (o:=1) (v:=.int .i64 a) (by go_simp) nx0;have i2:=K1.cell (c:=w.heap.size) (o:=2) (v:=.int .i64 b) (by go_simp) nx0;have i4:=K1.cell (c:=w.heap.size) (o:=4) (v:=.int .i64 n) (by go_simp) nx0;have r0:=K1.cell (c:=w.heap.size + 1) (o:=0) (v:=.int .i64 0) (by go_simp) nx1;have q0:=K1.frz (c:=w.heap.size + 1) (o:=0) (b:=false) (by go_simp) (by simp) nx1;have r1:=K1.cell (c:=w.heap.size + 1) (o:=1) (v:=.int .i64 0) (by go_simp) nx1;have q1:=K1.frz (c:=w.heap.size + 1) (o:=1) (b:=false) (by go_simp) (by simp) nx1;obtain ⟨vb,vo,vcap,rfl,v1,v2,v3,v4,v5,v6⟩:=VS.one V1;rw [hv.out] at v5 v6;have vne:=vs_ne v4;have vne2:=vne.symm;have hb1:=H1.rows.base.2;have hsz1 : w.heap.size + 1 < w1.heap.size:=(by have:=K1.size;simp at this;omega);have c12:=H1.c12;have f12:=H1.fz 12 (by decide);have f6:=H1.fz 6 (by decide);have c6:=H1.c6;replace V1:=Lib.hid V1;replace F1:=Lib.hid F1;replace H1:=Lib.hid H1;replace K1:=Lib.hid (KB0.out.trans K1 (fun y hy=>.inl hy))) | (go_at_call 104;refine (mustF H1.out rfl).mono ?_;rintro e w2 ⟨rfl,rfl⟩))
    refine bodyPost_ret (v:=.agg #[.int .i64 2,.int .i64 v.n]) (by simp [results,Try.results160,go_sem] <;> go_simp) rfl ?_
    obtain ⟨e1,e2⟩:=ended H1.out rfl 6 (Below.refl _ _)
    exact give_of (b:=w.heap.size + 1) (by omega) (by first | omega | (simp;omega)) HH.out (rrm_stop e1 e2 rfl) (F1.out) z1.out zp.out hkx.out (K1.out) (by first | exact kp2 _ _ _ _ | exact kp2d _ _ _ _)
set_option maxRecDepth 100000 in
set_option maxHeartbeats 4000000 in
theorem giv9 (H : RH E w L h d Sv.run) (F : Fr E w L P m fr vs) (hl : fr.stk.length ≤ 1000) (hn : fr.stk ≠ []) (a b c n : Int) (va : Value) :
    Calls Try.prog 160 #[.pointer (some ⟨E.hb,0,none⟩),.pointer (some ⟨P.cb,0,none⟩),.agg #[.int .i64 9,.int .i64 a,.int .i64 b,.int .i64 c,.int .i64 n,va]] w (GiveR E L P m d w (if (top fr.stk).kind = 2 then .ok ⟨1,(wrap32 (top fr.stk).n)⟩ h else .stop 6 h) ⟨fr.loc,fr.stk.dropLast,fr.at_⟩):=by
  have hKX : ∀ k,KX E L P k → k < w.heap.size:=fun k hk=>by
    rcases hk with hk | hk | hk
    · exact (own_lo H.rows hk).2
    · rw [hk];exact F.cbw
    · rw [hk];exact F.lbw
  have HH:=Lib.hid H
  have hhb0 : E.hb < w.heap.size:=H.rows.base.2
  have hhb1 : E.hb < w.heap.size + 1:=by omega
  obtain ⟨Z,hZ⟩ : ∃ Z : Nat → Prop,Hid (Z = fun k=>P.Z k ∨ k = w.heap.size ∨ k = w.heap.size + 1):=⟨_,rfl⟩
  have HB0 : Below w.heap.size w ((w.alloc (.cells #[.int .i64 9,.int .i64 a,.int .i64 b,.int .i64 c,.int .i64 n,va] 63)).alloc (.cells #[.int .i64 0,.int .i64 0] 104)):=by exact Rd.byB
  have H0:=Lib.hid (H.below HB0)
  have F0:=Lib.hid (F.zone HB0 Z (fun k hk=>by rw [hZ.out] at hk;rcases hk with q | q | q;exact .inl q;exact .inr (by omega);exact .inr (by omega)) (fun k hk=>by rw [hZ.out] at hk;rcases hk with q | q | q;exact Nat.lt_of_lt_of_le (F.zlt k q) HB0.size;(simp;omega);(simp;omega)))
  have nx0 : ¬ KX E L (P.zone Z) w.heap.size:=fun hk=>by have:=hKX _ hk;omega
  have nx1 : ¬ KX E L (P.zone Z) (w.heap.size + 1):=fun hk=>by have:=hKX _ hk;omega
  have z1 : Hid (Z (w.heap.size + 1)):=by show Z _;rw [hZ.out];exact .inr (.inr rfl)
  have zp : Hid (∀ k,P.Z k → Z k):=fun k hk=>by rw [hZ.out];exact .inl hk
  have hkx:=Lib.hid hKX
  have KB0:=Lib.hid (kpB (X:=KX E L P) HB0)
  clear H F hZ HB0 hKX
  obtain ⟨v,hv⟩ : ∃ v,Hid (top fr.stk = v):=⟨_,rfl⟩
  rw [hv.out]
  by_cases q : v.kind = 2
  · have qb : (v.kind == 2) = true:=by simpa using q
    rw [if_pos q]
    clear q
    go_enter Try.func160,Try.ntmps160
    go_wp2_with (first | (go_at_call 105;refine (take1R H0.out F0.out hn hl).mono ?_;rintro e w1 ⟨vt,vs1,rfl,V1,F1,H1,K1⟩;have i0:=K1.cell (c:=w.heap.size) (o:=0) (v:=.int .i64 9) (by go_simp) nx0;have i1:=K1.cell (c:=w.heap.size) (o:=1) (v:=.int .i64 a) (by go_simp) nx0;have i2:=K1.cell (c:=w.heap.size) (o:=2) (v:=.int .i64 b) (by go_simp) nx0;have i4:=K1.cell (c:=w.heap.size) (o:=4) (v:=.int .i64 n) (by go_simp) nx0;have r0:=K1.cell (c:=w.heap.size + 1) (o:=0) (v:=.int .i64 0) (by go_simp) nx1;have q0:=K1.frz (c:=w.heap.size + 1) (o:=0) (b:=false) (by go_simp) (by simp) nx1;have r1:=K1.cell (c:=w.heap.size + 1) (o:=1) (v:=.int .i64 0) (by go_simp) nx1;have q1:=K1.frz (c:=w.heap.size + 1) (o:=1) (b:=false) (by go_simp) (by simp) nx1;obtain ⟨vb,vo,vcap,rfl,v1,v2,v3,v4,v5,v6⟩:=VS.one V1;rw [hv.out] at v5 v6;have vne:=vs_ne v4;have vne2:=vne.symm;have hb1:=H1.rows.base.2;have hsz1 : w.heap.size + 1 < w1.heap.size:=(by have:=K1.size;simp at this;omega);have c12:=H1.c12;have f12:=H1.fz 12 (by decide);have f6:=H1.fz 6 (by decide);have c6:=H1.c6;replace V1:=Lib.hid V1;replace F1:=Lib.hid F1;replace H1:=Lib.hid H1;replace K1:=Lib.hid (KB0.out.trans K1 (fun y hy=>.inl hy))) | (go_at_call 104;refine (mustT H1.out rfl).mono ?_;rintro e w2 ⟨rfl,rfl⟩) | (go_at_call 99;refine (NumW.rnarrow _ _).mono ?_;rintro e w2 ⟨rfl,rfl⟩))
    refine bodyPost_ret (v:=.agg #[.int .i64 1,.int .i64 (wrap32 v.n)]) (by simp [results,Try.results160,go_sem] <;> go_simp) rfl ?_
    exact give_of (b:=w.heap.size + 1) (by omega) (by first | omega | (simp;omega)) HH.out (rrm_ok H1.out rfl rfl rfl) (F1.out) z1.out zp.out hkx.out (K1.out) (by first | exact kp2 _ _ _ _ | exact kp2d _ _ _ _)
  · have qb : (v.kind == 2) = false:=by simpa using q
    rw [if_neg q]
    clear q
    go_enter Try.func160,Try.ntmps160
    go_wp2_with (first | (go_at_call 105;refine (take1R H0.out F0.out hn hl).mono ?_;rintro e w1 ⟨vt,vs1,rfl,V1,F1,H1,K1⟩;have i0:=K1.cell (c:=w.heap.size) (o:=0) (v:=.int .i64 9) (by go_simp) nx0;have i1:=K1.cell (c:=w.heap.size) (o:=1) (v:=.int .i64 a) (by go_simp) nx0;have i2:=K1.cell (c:=w.heap.size) (o:=2) (v:=.int .i64 b) (by go_simp) nx0;have i4:=K1.cell (c:=w.heap.size) (o:=4) (v:=.int .i64 n) (by go_simp) nx0;have r0:=K1.cell (c:=w.heap.size + 1) (o:=0) (v:=.int .i64 0) (by go_simp) nx1;have q0:=K1.frz (c:=w.heap.size + 1) (o:=0) (b:=false) (by go_simp) (by simp) nx1;have r1:=K1.cell (c:=w.heap.size + 1) (o:=1) (v:=.int .i64 0) (by go_simp) nx1;have q1:=K1.frz (c:=w.heap.size + 1) (o:=1) (b:=false) (by go_simp) (by simp) nx1;obtain ⟨vb,vo,vcap,rfl,v1,v2,v3,v4,v5,v6⟩:=VS.one V1;rw [hv.out] at v5 v6;have vne:=vs_ne v4;have vne2:=vne.symm;have hb1:=H1.rows.base.2;have hsz1 : w.heap.size + 1 < w1.heap.size:=(by have:=K1.size;simp at this;omega);have c12:=H1.c12;have f12:=H1.fz 12 (by decide);have f6:=H1.fz 6 (by decide);have c6:=H1.c6;replace V1:=Lib.hid V1;replace F1:=Lib.hid F1;replace H1:=Lib.hid H1;replace K1:=Lib.hid (KB0.out.trans K1 (fun y hy=>.inl hy))) | (go_at_call 104;refine (mustF H1.out rfl).mono ?_;rintro e w2 ⟨rfl,rfl⟩) | (go_at_call 99;refine (NumW.rnarrow _ _).mono ?_;rintro e w2 ⟨rfl,rfl⟩))
    refine bodyPost_ret (v:=.agg #[.int .i64 1,.int .i64 (wrap32 v.n)]) (by simp [results,Try.results160,go_sem] <;> go_simp) rfl ?_
    obtain ⟨e1,e2⟩:=ended H1.out rfl 6 (Below.refl _ _)
    exact give_of (b:=w.heap.size + 1) (by omega) (by first | omega | (simp;omega)) HH.out (rrm_stop e1 e2 rfl) (F1.out) z1.out zp.out hkx.out (K1.out) (by first | exact kp2 _ _ _ _ | exact kp2d _ _ _ _)
set_option maxRecDepth 100000 in
set_option maxHeartbeats 4000000 in
theorem giv10 (H : RH E w L h d Sv.run) (F : Fr E w L P m fr vs) (hl : fr.stk.length ≤ 1000) (hn : fr.stk ≠ []) (hn2 : fr.stk.dropLast ≠ []) (a b c n : Int) (va : Value) :
    Calls Try.prog 160 #[.pointer (some ⟨E.hb,0,none⟩),.pointer (some ⟨P.cb,0,none⟩),.agg #[.int .i64 10,.int .i64 a,.int .i64 b,.int .i64 c,.int .i64 n,va]] w (GiveR E L P m d w (if (top fr.stk).kind = 2 ∧ (top fr.stk.dropLast).kind = 2 then .ok ⟨1,Num.cmp (top fr.stk.dropLast).n (top fr.stk).n⟩ h else .stop 6 h) ⟨fr.loc,fr.stk.dropLast.dropLast,fr.at_⟩):=by
  have hKX : ∀ k,KX E L P k → k < w.heap.size:=fun k hk=>by
    rcases hk with hk | hk | hk
    · exact (own_lo H.rows hk).2
    · rw [hk];exact F.cbw
    · rw [hk];exact F.lbw
  have HH:=Lib.hid H
  have hhb0 : E.hb < w.heap.size:=H.rows.base.2
  have hhb1 : E.hb < w.heap.size + 1:=by omega
  obtain ⟨Z,hZ⟩ : ∃ Z : Nat → Prop,Hid (Z = fun k=>P.Z k ∨ k = w.heap.size ∨ k = w.heap.size + 1):=⟨_,rfl⟩
  have HB0 : Below w.heap.size w ((w.alloc (.cells #[.int .i64 10,.int .i64 a,.int .i64 b,.int .i64 c,.int .i64 n,va] 63)).alloc (.cells #[.int .i64 0,.int .i64 0] 104)):=by exact Rd.byB
  have H0:=Lib.hid (H.below HB0)
  have F0:=Lib.hid (F.zone HB0 Z (fun k hk=>by rw [hZ.out] at hk;rcases hk with q | q | q;exact .inl q;exact .inr (by omega);exact .inr (by omega)) (fun k hk=>by rw [hZ.out] at hk;rcases hk with q | q | q;exact Nat.lt_of_lt_of_le (F.zlt k q) HB0.size;(simp;omega);(simp;omega)))
  have nx0 : ¬ KX E L (P.zone Z) w.heap.size:=fun hk=>by have:=hKX _ hk;omega
  have nx1 : ¬ KX E L (P.zone Z) (w.heap.size + 1):=fun hk=>by have:=hKX _ hk;omega
  have z1 : Hid (Z (w.heap.size + 1)):=by show Z _;rw [hZ.out];exact .inr (.inr rfl)
  have zp : Hid (∀ k,P.Z k → Z k):=fun k hk=>by rw [hZ.out];exact .inl hk
  have hkx:=Lib.hid hKX
  have KB0:=Lib.hid (kpB (X:=KX E L P) HB0)
  clear H F hZ HB0 hKX
  obtain ⟨x,hx⟩ : ∃ x,Hid (top fr.stk.dropLast = x):=⟨_,rfl⟩
  obtain ⟨y,hy⟩ : ∃ y,Hid (top fr.stk = y):=⟨_,rfl⟩
  rw [hx.out,hy.out]
  by_cases q1 : x.kind = 2
  · have qb : (x.kind == 2) = true:=by simpa using q1
    by_cases q2 : y.kind = 2
    · have qb2 : (y.kind == 2) = true:=by simpa using q2
      rw [if_pos ⟨q2,q1⟩]
      clear q1 q2
      go_enter Try.func160,Try.ntmps160
      go_wp2_with (first | (go_at_call 105;refine (take2R H0.out F0.out hn hn2 hl).mono ?_;rintro e w1 ⟨vt,vs1,rfl,V1,F1,H1,K1⟩;have i0:=K1.cell (c:=w.heap.size) (o:=0) (v:=.int .i64 10) (by go_simp) nx0;have i1:=K1.cell (c:=w.heap.size) (o:=1) (v:=.int .i64 a) (by go_simp) nx0;have i2:=K1.cell (c:=w.heap.size) (o:=2) (v:=.int .i64 b) (by go_simp) nx0;have i4:=K1.cell (c:=w.heap.size) (o:=4) (v:=.int .i64 n) (by go_simp) nx0;have r0:=K1.cell (c:=w.heap.size + 1) (o:=0) (v:=.int .i64 0) (by go_simp) nx1;have q0:=K1.frz (c:=w.heap.size + 1) (o:=0) (b:=false) (by go_simp) (by simp) nx1;have r1:=K1.cell (c:=w.heap.size + 1) (o:=1) (v:=.int .i64 0) (by go_simp) nx1;have q1:=K1.frz (c:=w.heap.size + 1) (o:=1) (b:=false) (by go_simp) (by simp) nx1;obtain ⟨vb,vo,vcap,rfl,v1,v2,v3,v4,v5,v6,v7,v8⟩:=VS.two V1;rw [hx.out] at v5 v6;rw [hy.out] at v7 v8;have vne:=vs_ne v4;have vne2:=vne.symm;have hb1:=H1.rows.base.2;have hsz1 : w.heap.size + 1 < w1.heap.size:=(by have:=K1.size;simp at this;omega);have c12:=H1.c12;have f12:=H1.fz 12 (by decide);have f6:=H1.fz 6 (by decide);have c6:=H1.c6;replace V1:=Lib.hid V1;replace F1:=Lib.hid F1;replace H1:=Lib.hid H1;replace K1:=Lib.hid (KB0.out.trans K1 (fun y hy=>.inl hy))) | (go_at_call 104;refine (mustT H1.out rfl).mono ?_;rintro e w2 ⟨rfl,rfl⟩))
      go_still_tail 8,(by kernel_rfl)
      go_wp2_with (go_at_call 201;refine (NumW.rcmp _ _ _).mono ?_;rintro e w2 ⟨rfl,rfl⟩)
      refine bodyPost_ret (v:=.agg #[.int .i64 1,.int .i64 (Num.cmp x.n y.n)]) (by simp [results,Try.results160,go_sem] <;> go_simp) rfl ?_
      exact give_of (b:=w.heap.size + 1) (by omega) (by first | omega | (simp;omega)) HH.out (rrm_ok H1.out rfl rfl rfl) (F1.out) z1.out zp.out hkx.out (K1.out) (by first | exact kp2 _ _ _ _ | exact kp2d _ _ _ _)
    · have qb2 : (y.kind == 2) = false:=by simpa using q2
      rw [if_neg (fun e=>q2 e.1)]
      clear q1 q2
      go_enter Try.func160,Try.ntmps160
      go_wp2_with (first | (go_at_call 105;refine (take2R H0.out F0.out hn hn2 hl).mono ?_;rintro e w1 ⟨vt,vs1,rfl,V1,F1,H1,K1⟩;have i0:=K1.cell (c:=w.heap.size) (o:=0) (v:=.int .i64 10) (by go_simp) nx0;have i1:=K1.cell (c:=w.heap.size) (o:=1) (v:=.int .i64 a) (by go_simp) nx0;have i2:=K1.cell (c:=w.heap.size) (o:=2) (v:=.int .i64 b) (by go_simp) nx0;have i4:=K1.cell (c:=w.heap.size) (o:=4) (v:=.int .i64 n) (by go_simp) nx0;have r0:=K1.cell (c:=w.heap.size + 1) (o:=0) (v:=.int .i64 0) (by go_simp) nx1;have q0:=K1.frz (c:=w.heap.size + 1) (o:=0) (b:=false) (by go_simp) (by simp) nx1;have r1:=K1.cell (c:=w.heap.size + 1) (o:=1) (v:=.int .i64 0) (by go_simp) nx1;have q1:=K1.frz (c:=w.heap.size + 1) (o:=1) (b:=false) (by go_simp) (by simp) nx1;obtain ⟨vb,vo,vcap,rfl,v1,v2,v3,v4,v5,v6,v7,v8⟩:=VS.two V1;rw [hx.out] at v5 v6;rw [hy.out] at v7 v8;have vne:=vs_ne v4;have vne2:=vne.symm;have hb1:=H1.rows.base.2;have hsz1 : w.heap.size + 1 < w1.heap.size:=(by have:=K1.size;simp at this;omega);have c12:=H1.c12;have f12:=H1.fz 12 (by decide);have f6:=H1.fz 6 (by decide);have c6:=H1.c6;replace V1:=Lib.hid V1;replace F1:=Lib.hid F1;replace H1:=Lib.hid H1;replace K1:=Lib.hid (KB0.out.trans K1 (fun y hy=>.inl hy))) | (go_at_call 104;refine (mustF H1.out rfl).mono ?_;rintro e w2 ⟨rfl,hw⟩;obtain ⟨HE,KE⟩ : RH E w2 L h d (Sv.ends 6) ∧ Kp (own E L) w1 w2:=(by rw [← hw];exact ended H1.out rfl 6 (Below.refl _ _));clear hw;have r0e:=KE.cell r0 (fun hk=>nx1 (.inl hk));have r1e:=KE.cell r1 (fun hk=>nx1 (.inl hk));have q0e:=KE.frz q0 hsz1 (fun hk=>nx1 (.inl hk));have q1e:=KE.frz q1 hsz1 (fun hk=>nx1 (.inl hk));have v5e:=KE.cell v5 (fun hk=>v4 (.inl (.inl hk)));have v6e:=KE.cell v6 (fun hk=>v4 (.inl (.inl hk)));have v7e:=KE.cell v7 (fun hk=>v4 (.inl (.inl hk)));have v8e:=KE.cell v8 (fun hk=>v4 (.inl (.inl hk)));replace HE:=Lib.hid HE;replace KE:=Lib.hid KE))
      go_still_tail 8,(by kernel_rfl)
      go_wp2_with (go_at_call 201;refine (NumW.rcmp _ _ _).mono ?_;rintro e w2 ⟨rfl,rfl⟩)
      refine bodyPost_ret (v:=.agg #[.int .i64 1,.int .i64 (Num.cmp x.n y.n)]) (by simp [results,Try.results160,go_sem] <;> go_simp) rfl ?_
      exact give_of (b:=w.heap.size + 1) (by omega) (by first | omega | (simp;omega)) HH.out (rrm_stop HE.out KE.out rfl) (F1.out) z1.out zp.out hkx.out (K1.out) (by first | exact kp2 _ _ _ _ | exact kp2d _ _ _ _ | exact kpd2 _ _ _ _)
  · have qb : (x.kind == 2) = false:=by simpa using q1
    rw [if_neg (fun e=>q1 e.2)]
    clear q1
    go_enter Try.func160,Try.ntmps160
    go_wp2_with (first | (go_at_call 105;refine (take2R H0.out F0.out hn hn2 hl).mono ?_;rintro e w1 ⟨vt,vs1,rfl,V1,F1,H1,K1⟩;have i0:=K1.cell (c:=w.heap.size) (o:=0) (v:=.int .i64 10) (by go_simp) nx0;have i1:=K1.cell (c:=w.heap.size) (o:=1) (v:=.int .i64 a) (by go_simp) nx0;have i2:=K1.cell (c:=w.heap.size) (o:=2) (v:=.int .i64 b) (by go_simp) nx0;have i4:=K1.cell (c:=w.heap.size) (o:=4) (v:=.int .i64 n) (by go_simp) nx0;have r0:=K1.cell (c:=w.heap.size + 1) (o:=0) (v:=.int .i64 0) (by go_simp) nx1;have q0:=K1.frz (c:=w.heap.size + 1) (o:=0) (b:=false) (by go_simp) (by simp) nx1;have r1:=K1.cell (c:=w.heap.size + 1) (o:=1) (v:=.int .i64 0) (by go_simp) nx1;have q1:=K1.frz (c:=w.heap.size + 1) (o:=1) (b:=false) (by go_simp) (by simp) nx1;obtain ⟨vb,vo,vcap,rfl,v1,v2,v3,v4,v5,v6,v7,v8⟩:=VS.two V1;rw [hx.out] at v5 v6;rw [hy.out] at v7 v8;have vne:=vs_ne v4;have vne2:=vne.symm;have hb1:=H1.rows.base.2;have hsz1 : w.heap.size + 1 < w1.heap.size:=(by have:=K1.size;simp at this;omega);have c12:=H1.c12;have f12:=H1.fz 12 (by decide);have f6:=H1.fz 6 (by decide);have c6:=H1.c6;replace V1:=Lib.hid V1;replace F1:=Lib.hid F1;replace H1:=Lib.hid H1;replace K1:=Lib.hid (KB0.out.trans K1 (fun y hy=>.inl hy))) | (go_at_call 104;refine (mustF H1.out rfl).mono ?_;rintro e w2 ⟨rfl,hw⟩;obtain ⟨HE,KE⟩ : RH E w2 L h d (Sv.ends 6) ∧ Kp (own E L) w1 w2:=(by rw [← hw];exact ended H1.out rfl 6 (Below.refl _ _));clear hw;have r0e:=KE.cell r0 (fun hk=>nx1 (.inl hk));have r1e:=KE.cell r1 (fun hk=>nx1 (.inl hk));have q0e:=KE.frz q0 hsz1 (fun hk=>nx1 (.inl hk));have q1e:=KE.frz q1 hsz1 (fun hk=>nx1 (.inl hk));have v5e:=KE.cell v5 (fun hk=>v4 (.inl (.inl hk)));have v6e:=KE.cell v6 (fun hk=>v4 (.inl (.inl hk)));have v7e:=KE.cell v7 (fun hk=>v4 (.inl (.inl hk)));have v8e:=KE.cell v8 (fun hk=>v4 (.inl (.inl hk)));replace HE:=Lib.hid HE;replace KE:=Lib.hid KE))
    go_still_tail 8,(by kernel_rfl)
    go_wp2_with (go_at_call 201;refine (NumW.rcmp _ _ _).mono ?_;rintro e w2 ⟨rfl,rfl⟩)
    refine bodyPost_ret (v:=.agg #[.int .i64 1,.int .i64 (Num.cmp x.n y.n)]) (by simp [results,Try.results160,go_sem] <;> go_simp) rfl ?_
    exact give_of (b:=w.heap.size + 1) (by omega) (by first | omega | (simp;omega)) HH.out (rrm_stop HE.out KE.out rfl) (F1.out) z1.out zp.out hkx.out (K1.out) (by first | exact kp2 _ _ _ _ | exact kp2d _ _ _ _ | exact kpd2 _ _ _ _)
end
end Rhw
end Go.Proofs.Ytncmhenfgbcihab
namespace Go.Proofs.Ytncmhenfgbcihab
open Go.RowKit
set_option linter.unusedSimpArgs false
set_option linter.unusedVariables false
namespace Rhw
open Num Rd D Run Mem HierW Hpw
section
variable {E : Ev} {w w' : World} {L L' : RL} {h h' : Hp} {d : Nat} {s : Sv} {P : Pl} {m : Me} {fr : Sf} {vs : Value}
set_option maxRecDepth 100000 in
set_option maxHeartbeats 4000000 in
theorem giv14 (H : RH E w L h d Sv.run) (F : Fr E w L P m fr vs) (hl : fr.stk.length ≤ 1000) (hm : Hier.may E.f.classes = true) (HO : HpOk E.f.classes E.input E.fuel h) (a b c n : Int) (va : Value) :
    Calls Try.prog 160 #[.pointer (some ⟨E.hb,0,none⟩),.pointer (some ⟨P.cb,0,none⟩),.agg #[.int .i64 14,.int .i64 a,.int .i64 b,.int .i64 c,.int .i64 n,va]] w (GiveR E L P m d w (Run.new E.f.classes a h) fr):=by
  have hKX : ∀ k,KX E L P k → k < w.heap.size:=fun k hk=>by
    rcases hk with hk | hk | hk
    · exact (own_lo H.rows hk).2
    · rw [hk];exact F.cbw
    · rw [hk];exact F.lbw
  have HH:=Lib.hid H
  have hhb0 : E.hb < w.heap.size:=H.rows.base.2
  have hhb1 : E.hb < w.heap.size + 1:=by omega
  obtain ⟨Z,hZ⟩ : ∃ Z : Nat → Prop,Hid (Z = fun k=>P.Z k ∨ k = w.heap.size ∨ k = w.heap.size + 1):=⟨_,rfl⟩
  have HB0 : Below w.heap.size w ((w.alloc (.cells #[.int .i64 14,.int .i64 a,.int .i64 b,.int .i64 c,.int .i64 n,va] 63)).alloc (.cells #[.int .i64 0,.int .i64 0] 104)):=by exact Rd.byB
  have H0:=Lib.hid (H.below HB0)
  have F0:=Lib.hid (F.zone HB0 Z (fun k hk=>by rw [hZ.out] at hk;rcases hk with q | q | q;exact .inl q;exact .inr (by omega);exact .inr (by omega)) (fun k hk=>by rw [hZ.out] at hk;rcases hk with q | q | q;exact Nat.lt_of_lt_of_le (F.zlt k q) HB0.size;(simp;omega);(simp;omega)))
  have nx0 : ¬ KX E L (P.zone Z) w.heap.size:=fun hk=>by have:=hKX _ hk;omega
  have nx1 : ¬ KX E L (P.zone Z) (w.heap.size + 1):=fun hk=>by have:=hKX _ hk;omega
  have z1 : Hid (Z (w.heap.size + 1)):=by show Z _;rw [hZ.out];exact .inr (.inr rfl)
  have zp : Hid (∀ k,P.Z k → Z k):=fun k hk=>by rw [hZ.out];exact .inl hk
  have hkx:=Lib.hid hKX
  have KB0:=Lib.hid (kpB (X:=KX E L P) HB0)
  clear H F hZ HB0 hKX
  go_enter Try.func160,Try.ntmps160
  go_wp2_with (first | (go_at_call 105;refine (take0R H0.out F0.out hl).mono ?_;rintro e w1 ⟨vt,vs1,rfl,V1,F1,H1,K1⟩;have i0:=K1.cell (c:=w.heap.size) (o:=0) (v:=.int .i64 14) (by go_simp) nx0;have i1:=K1.cell (c:=w.heap.size) (o:=1) (v:=.int .i64 a) (by go_simp) nx0;have i2:=K1.cell (c:=w.heap.size) (o:=2) (v:=.int .i64 b) (by go_simp) nx0;have i4:=K1.cell (c:=w.heap.size) (o:=4) (v:=.int .i64 n) (by go_simp) nx0;have r0:=K1.cell (c:=w.heap.size + 1) (o:=0) (v:=.int .i64 0) (by go_simp) nx1;have q0:=K1.frz (c:=w.heap.size + 1) (o:=0) (b:=false) (by go_simp) (by simp) nx1;have r1:=K1.cell (c:=w.heap.size + 1) (o:=1) (v:=.int .i64 0) (by go_simp) nx1;have q1:=K1.frz (c:=w.heap.size + 1) (o:=1) (b:=false) (by go_simp) (by simp) nx1;have hb1:=H1.rows.base.2;have hsz1 : w.heap.size + 1 < w1.heap.size:=(by have:=K1.size;simp at this;omega);have c12:=H1.c12;have f12:=H1.fz 12 (by decide);have f6:=H1.fz 6 (by decide);have c6:=H1.c6;replace V1:=Lib.hid V1;replace F1:=Lib.hid F1;replace H1:=Lib.hid H1;replace K1:=Lib.hid (KB0.out.trans K1 (fun y hy=>.inl hy))) | (go_at_call 202;refine (newR H1.out hm a).mono ?_;rintro e w2 HR2;obtain ⟨rk,rn,rfl,R2⟩:=rrv_m HR2;clear HR2;have KK:=rrm_kp R2;have s0:=KK.cell r0 (fun hk=>nx1 (.inl hk));have s1:=KK.cell r1 (fun hk=>nx1 (.inl hk));have t0:=KK.frz q0 (by first | omega | (simp;omega)) (fun hk=>nx1 (.inl hk));have t1:=KK.frz q1 (by first | omega | (simp;omega)) (fun hk=>nx1 (.inl hk));replace R2:=Lib.hid R2;replace KK:=Lib.hid KK))
  refine bodyPost_ret (v:=.agg #[.int .i64 rk,.int .i64 rn]) (by simp [results,Try.results160,go_sem] <;> go_simp) rfl ?_
  exact give_of (b:=w.heap.size + 1) (by omega) (by first | omega | (simp;omega)) HH.out (R2.out) (F1.out) z1.out zp.out hkx.out (K1.out) (by first | exact kp2 _ _ _ _ | exact kp2d _ _ _ _)
set_option maxRecDepth 100000 in
set_option maxHeartbeats 4000000 in
theorem giv25 (H : RH E w L h d Sv.run) (F : Fr E w L P m fr vs) (hl : fr.stk.length ≤ 1000) (hm : Hier.may E.f.classes = true) (HO : HpOk E.f.classes E.input E.fuel h) (hin : E.input.length ≤ 1000) (a b c n : Int) (va : Value) :
    Calls Try.prog 160 #[.pointer (some ⟨E.hb,0,none⟩),.pointer (some ⟨P.cb,0,none⟩),.agg #[.int .i64 25,.int .i64 a,.int .i64 b,.int .i64 c,.int .i64 n,va]] w (GiveR E L P m d w (Run.takeIn E.input h) fr):=by
  have hKX : ∀ k,KX E L P k → k < w.heap.size:=fun k hk=>by
    rcases hk with hk | hk | hk
    · exact (own_lo H.rows hk).2
    · rw [hk];exact F.cbw
    · rw [hk];exact F.lbw
  have HH:=Lib.hid H
  have hhb0 : E.hb < w.heap.size:=H.rows.base.2
  have hhb1 : E.hb < w.heap.size + 1:=by omega
  obtain ⟨Z,hZ⟩ : ∃ Z : Nat → Prop,Hid (Z = fun k=>P.Z k ∨ k = w.heap.size ∨ k = w.heap.size + 1):=⟨_,rfl⟩
  have HB0 : Below w.heap.size w ((w.alloc (.cells #[.int .i64 25,.int .i64 a,.int .i64 b,.int .i64 c,.int .i64 n,va] 63)).alloc (.cells #[.int .i64 0,.int .i64 0] 104)):=by exact Rd.byB
  have H0:=Lib.hid (H.below HB0)
  have F0:=Lib.hid (F.zone HB0 Z (fun k hk=>by rw [hZ.out] at hk;rcases hk with q | q | q;exact .inl q;exact .inr (by omega);exact .inr (by omega)) (fun k hk=>by rw [hZ.out] at hk;rcases hk with q | q | q;exact Nat.lt_of_lt_of_le (F.zlt k q) HB0.size;(simp;omega);(simp;omega)))
  have nx0 : ¬ KX E L (P.zone Z) w.heap.size:=fun hk=>by have:=hKX _ hk;omega
  have nx1 : ¬ KX E L (P.zone Z) (w.heap.size + 1):=fun hk=>by have:=hKX _ hk;omega
  have z1 : Hid (Z (w.heap.size + 1)):=by show Z _;rw [hZ.out];exact .inr (.inr rfl)
  have zp : Hid (∀ k,P.Z k → Z k):=fun k hk=>by rw [hZ.out];exact .inl hk
  have hkx:=Lib.hid hKX
  have KB0:=Lib.hid (kpB (X:=KX E L P) HB0)
  clear H F hZ HB0 hKX
  go_enter Try.func160,Try.ntmps160
  go_wp2_with (first | (go_at_call 105;refine (take0R H0.out F0.out hl).mono ?_;rintro e w1 ⟨vt,vs1,rfl,V1,F1,H1,K1⟩;have i0:=K1.cell (c:=w.heap.size) (o:=0) (v:=.int .i64 25) (by go_simp) nx0;have i1:=K1.cell (c:=w.heap.size) (o:=1) (v:=.int .i64 a) (by go_simp) nx0;have i2:=K1.cell (c:=w.heap.size) (o:=2) (v:=.int .i64 b) (by go_simp) nx0;have i4:=K1.cell (c:=w.heap.size) (o:=4) (v:=.int .i64 n) (by go_simp) nx0;have r0:=K1.cell (c:=w.heap.size + 1) (o:=0) (v:=.int .i64 0) (by go_simp) nx1;have q0:=K1.frz (c:=w.heap.size + 1) (o:=0) (b:=false) (by go_simp) (by simp) nx1;have r1:=K1.cell (c:=w.heap.size + 1) (o:=1) (v:=.int .i64 0) (by go_simp) nx1;have q1:=K1.frz (c:=w.heap.size + 1) (o:=1) (b:=false) (by go_simp) (by simp) nx1;have hb1:=H1.rows.base.2;have hsz1 : w.heap.size + 1 < w1.heap.size:=(by have:=K1.size;simp at this;omega);have c12:=H1.c12;have f12:=H1.fz 12 (by decide);have f6:=H1.fz 6 (by decide);have c6:=H1.c6;replace V1:=Lib.hid V1;replace F1:=Lib.hid F1;replace H1:=Lib.hid H1;replace K1:=Lib.hid (KB0.out.trans K1 (fun y hy=>.inl hy))) | (go_at_call 205;refine (inR H1.out hin).mono ?_;rintro e w2 HR2;obtain ⟨rk,rn,rfl,R2⟩:=rrv_m HR2;clear HR2;have KK:=rrm_kp R2;have s0:=KK.cell r0 (fun hk=>nx1 (.inl hk));have s1:=KK.cell r1 (fun hk=>nx1 (.inl hk));have t0:=KK.frz q0 (by first | omega | (simp;omega)) (fun hk=>nx1 (.inl hk));have t1:=KK.frz q1 (by first | omega | (simp;omega)) (fun hk=>nx1 (.inl hk));replace R2:=Lib.hid R2;replace KK:=Lib.hid KK))
  refine bodyPost_ret (v:=.agg #[.int .i64 rk,.int .i64 rn]) (by simp [results,Try.results160,go_sem] <;> go_simp) rfl ?_
  exact give_of (b:=w.heap.size + 1) (by omega) (by first | omega | (simp;omega)) HH.out (R2.out) (F1.out) z1.out zp.out hkx.out (K1.out) (by first | exact kp2 _ _ _ _ | exact kp2d _ _ _ _)
set_option maxRecDepth 100000 in
set_option maxHeartbeats 4000000 in
theorem giv6 (H : RH E w L h d Sv.run) (F : Fr E w L P m fr vs) (hl : fr.stk.length ≤ 1000) (hm : Hier.may E.f.classes = true) (HO : HpOk E.f.classes E.input E.fuel h) (hok : ∀ v ∈ fr.stk, VlOk h.objs.length v) (hn : fr.stk ≠ []) (hn2 : fr.stk.dropLast ≠ []) (a b c n : Int) (va : Value) :
    Calls Try.prog 160 #[.pointer (some ⟨E.hb,0,none⟩),.pointer (some ⟨P.cb,0,none⟩),.agg #[.int .i64 6,.int .i64 a,.int .i64 b,.int .i64 c,.int .i64 n,va]] w (GiveR E L P m d w (Run.reckon E.f.classes (top fr.stk.dropLast) (top fr.stk) 1 a h) ⟨fr.loc,fr.stk.dropLast.dropLast,fr.at_⟩):=by
  have hKX : ∀ k,KX E L P k → k < w.heap.size:=fun k hk=>by
    rcases hk with hk | hk | hk
    · exact (own_lo H.rows hk).2
    · rw [hk];exact F.cbw
    · rw [hk];exact F.lbw
  have HH:=Lib.hid H
  have hhb0 : E.hb < w.heap.size:=H.rows.base.2
  have hhb1 : E.hb < w.heap.size + 1:=by omega
  obtain ⟨Z,hZ⟩ : ∃ Z : Nat → Prop,Hid (Z = fun k=>P.Z k ∨ k = w.heap.size ∨ k = w.heap.size + 1):=⟨_,rfl⟩
  have HB0 : Below w.heap.size w ((w.alloc (.cells #[.int .i64 6,.int .i64 a,.int .i64 b,.int .i64 c,.int .i64 n,va] 63)).alloc (.cells #[.int .i64 0,.int .i64 0] 104)):=by exact Rd.byB
  have H0:=Lib.hid (H.below HB0)
  have F0:=Lib.hid (F.zone HB0 Z (fun k hk=>by rw [hZ.out] at hk;rcases hk with q | q | q;exact .inl q;exact .inr (by omega);exact .inr (by omega)) (fun k hk=>by rw [hZ.out] at hk;rcases hk with q | q | q;exact Nat.lt_of_lt_of_le (F.zlt k q) HB0.size;(simp;omega);(simp;omega)))
  have nx0 : ¬ KX E L (P.zone Z) w.heap.size:=fun hk=>by have:=hKX _ hk;omega
  have nx1 : ¬ KX E L (P.zone Z) (w.heap.size + 1):=fun hk=>by have:=hKX _ hk;omega
  have z1 : Hid (Z (w.heap.size + 1)):=by show Z _;rw [hZ.out];exact .inr (.inr rfl)
  have zp : Hid (∀ k,P.Z k → Z k):=fun k hk=>by rw [hZ.out];exact .inl hk
  have hkx:=Lib.hid hKX
  have KB0:=Lib.hid (kpB (X:=KX E L P) HB0)
  clear H F hZ HB0 hKX
  obtain ⟨x,hx⟩ : ∃ x,Hid (top fr.stk.dropLast = x):=⟨_,rfl⟩
  obtain ⟨y,hy⟩ : ∃ y,Hid (top fr.stk = y):=⟨_,rfl⟩
  have okx : Ok x.n:=by rw [← hx.out];exact (hok _ (List.dropLast_subset _ (top_mem hn2))).1
  have oky : Ok y.n:=by rw [← hy.out];exact (hok _ (top_mem hn)).1
  rw [hx.out,hy.out]
  replace okx:=Lib.hid okx
  replace oky:=Lib.hid oky
  clear hok
  go_enter Try.func160,Try.ntmps160
  go_wp2_with (go_at_call 105;refine (take2R H0.out F0.out hn hn2 hl).mono ?_;rintro e w1 ⟨vt,vs1,rfl,V1,F1,H1,K1⟩;have i0:=K1.cell (c:=w.heap.size) (o:=0) (v:=.int .i64 6) (by go_simp) nx0;have i1:=K1.cell (c:=w.heap.size) (o:=1) (v:=.int .i64 a) (by go_simp) nx0;have i2:=K1.cell (c:=w.heap.size) (o:=2) (v:=.int .i64 b) (by go_simp) nx0;have i4:=K1.cell (c:=w.heap.size) (o:=4) (v:=.int .i64 n) (by go_simp) nx0;have r0:=K1.cell (c:=w.heap.size + 1) (o:=0) (v:=.int .i64 0) (by go_simp) nx1;have q0:=K1.frz (c:=w.heap.size + 1) (o:=0) (b:=false) (by go_simp) (by simp) nx1;have r1:=K1.cell (c:=w.heap.size + 1) (o:=1) (v:=.int .i64 0) (by go_simp) nx1;have q1:=K1.frz (c:=w.heap.size + 1) (o:=1) (b:=false) (by go_simp) (by simp) nx1;obtain ⟨vb,vo,vcap,rfl,v1,v2,v3,v4,v5,v6,v7,v8⟩:=VS.two V1;rw [hx.out] at v5 v6;rw [hy.out] at v7 v8;have vne:=vs_ne v4;have vne2:=vne.symm;have hb1:=H1.rows.base.2;have hsz1 : w.heap.size + 1 < w1.heap.size:=(by have:=K1.size;simp at this;omega);have c12:=H1.c12;have f12:=H1.fz 12 (by decide);have f6:=H1.fz 6 (by decide);have c6:=H1.c6;replace V1:=Lib.hid V1;replace F1:=Lib.hid F1;replace H1:=Lib.hid H1;replace K1:=Lib.hid (KB0.out.trans K1 (fun y hy=>.inl hy)))
  go_still_tail 9,(by kernel_rfl)
  go_wp2_with (go_at_call 200;refine (reckonR (H1.out.below (w':=w1.drew) (by exact Rd.byB)) hm x y okx.out oky.out 1 a (by decide)).mono ?_;rintro e w2 HR2;obtain ⟨rk,rn,rfl,R2⟩:=rrv_m HR2;clear HR2;have KK:=rrm_kp R2;have s0:=KK.cell r0 (fun hk=>nx1 (.inl hk));have s1:=KK.cell r1 (fun hk=>nx1 (.inl hk));have t0:=KK.frz q0 (by first | omega | (simp;omega)) (fun hk=>nx1 (.inl hk));have t1:=KK.frz q1 (by first | omega | (simp;omega)) (fun hk=>nx1 (.inl hk));replace R2:=Lib.hid R2;replace KK:=Lib.hid KK)
  refine bodyPost_ret (v:=.agg #[.int .i64 rk,.int .i64 rn]) (by simp [results,Try.results160,go_sem] <;> go_simp) rfl ?_
  exact give_of (b:=w.heap.size + 1) (by omega) (by first | omega | (simp;omega)) HH.out (R2.out) (F1.out.below (by exact Rd.byB)) z1.out zp.out hkx.out (kb K1.out (by exact Rd.byB)) (by first | exact kp2 _ _ _ _ | exact kp2d _ _ _ _)
set_option maxRecDepth 100000 in
set_option maxHeartbeats 4000000 in
theorem giv7 (H : RH E w L h d Sv.run) (F : Fr E w L P m fr vs) (hl : fr.stk.length ≤ 1000) (hm : Hier.may E.f.classes = true) (HO : HpOk E.f.classes E.input E.fuel h) (hok : ∀ v ∈ fr.stk, VlOk h.objs.length v) (hn : fr.stk ≠ []) (hn2 : fr.stk.dropLast ≠ []) (a b c n : Int) (va : Value) :
    Calls Try.prog 160 #[.pointer (some ⟨E.hb,0,none⟩),.pointer (some ⟨P.cb,0,none⟩),.agg #[.int .i64 7,.int .i64 a,.int .i64 b,.int .i64 c,.int .i64 n,va]] w (GiveR E L P m d w (Run.reckon E.f.classes (top fr.stk.dropLast) (top fr.stk) 2 a h) ⟨fr.loc,fr.stk.dropLast.dropLast,fr.at_⟩):=by
  have hKX : ∀ k,KX E L P k → k < w.heap.size:=fun k hk=>by
    rcases hk with hk | hk | hk
    · exact (own_lo H.rows hk).2
    · rw [hk];exact F.cbw
    · rw [hk];exact F.lbw
  have HH:=Lib.hid H
  have hhb0 : E.hb < w.heap.size:=H.rows.base.2
  have hhb1 : E.hb < w.heap.size + 1:=by omega
  obtain ⟨Z,hZ⟩ : ∃ Z : Nat → Prop,Hid (Z = fun k=>P.Z k ∨ k = w.heap.size ∨ k = w.heap.size + 1):=⟨_,rfl⟩
  have HB0 : Below w.heap.size w ((w.alloc (.cells #[.int .i64 7,.int .i64 a,.int .i64 b,.int .i64 c,.int .i64 n,va] 63)).alloc (.cells #[.int .i64 0,.int .i64 0] 104)):=by exact Rd.byB
  have H0:=Lib.hid (H.below HB0)
  have F0:=Lib.hid (F.zone HB0 Z (fun k hk=>by rw [hZ.out] at hk;rcases hk with q | q | q;exact .inl q;exact .inr (by omega);exact .inr (by omega)) (fun k hk=>by rw [hZ.out] at hk;rcases hk with q | q | q;exact Nat.lt_of_lt_of_le (F.zlt k q) HB0.size;(simp;omega);(simp;omega)))
  have nx0 : ¬ KX E L (P.zone Z) w.heap.size:=fun hk=>by have:=hKX _ hk;omega
  have nx1 : ¬ KX E L (P.zone Z) (w.heap.size + 1):=fun hk=>by have:=hKX _ hk;omega
  have z1 : Hid (Z (w.heap.size + 1)):=by show Z _;rw [hZ.out];exact .inr (.inr rfl)
  have zp : Hid (∀ k,P.Z k → Z k):=fun k hk=>by rw [hZ.out];exact .inl hk
  have hkx:=Lib.hid hKX
  have KB0:=Lib.hid (kpB (X:=KX E L P) HB0)
  clear H F hZ HB0 hKX
  obtain ⟨x,hx⟩ : ∃ x,Hid (top fr.stk.dropLast = x):=⟨_,rfl⟩
  obtain ⟨y,hy⟩ : ∃ y,Hid (top fr.stk = y):=⟨_,rfl⟩
  have okx : Ok x.n:=by rw [← hx.out];exact (hok _ (List.dropLast_subset _ (top_mem hn2))).1
  have oky : Ok y.n:=by rw [← hy.out];exact (hok _ (top_mem hn)).1
  rw [hx.out,hy.out]
  replace okx:=Lib.hid okx
  replace oky:=Lib.hid oky
  clear hok
  go_enter Try.func160,Try.ntmps160
  go_wp2_with (go_at_call 105;refine (take2R H0.out F0.out hn hn2 hl).mono ?_;rintro e w1 ⟨vt,vs1,rfl,V1,F1,H1,K1⟩;have i0:=K1.cell (c:=w.heap.size) (o:=0) (v:=.int .i64 7) (by go_simp) nx0;have i1:=K1.cell (c:=w.heap.size) (o:=1) (v:=.int .i64 a) (by go_simp) nx0;have i2:=K1.cell (c:=w.heap.size) (o:=2) (v:=.int .i64 b) (by go_simp) nx0;have i4:=K1.cell (c:=w.heap.size) (o:=4) (v:=.int .i64 n) (by go_simp) nx0;have r0:=K1.cell (c:=w.heap.size + 1) (o:=0) (v:=.int .i64 0) (by go_simp) nx1;have q0:=K1.frz (c:=w.heap.size + 1) (o:=0) (b:=false) (by go_simp) (by simp) nx1;have r1:=K1.cell (c:=w.heap.size + 1) (o:=1) (v:=.int .i64 0) (by go_simp) nx1;have q1:=K1.frz (c:=w.heap.size + 1) (o:=1) (b:=false) (by go_simp) (by simp) nx1;obtain ⟨vb,vo,vcap,rfl,v1,v2,v3,v4,v5,v6,v7,v8⟩:=VS.two V1;rw [hx.out] at v5 v6;rw [hy.out] at v7 v8;have vne:=vs_ne v4;have vne2:=vne.symm;have hb1:=H1.rows.base.2;have hsz1 : w.heap.size + 1 < w1.heap.size:=(by have:=K1.size;simp at this;omega);have c12:=H1.c12;have f12:=H1.fz 12 (by decide);have f6:=H1.fz 6 (by decide);have c6:=H1.c6;replace V1:=Lib.hid V1;replace F1:=Lib.hid F1;replace H1:=Lib.hid H1;replace K1:=Lib.hid (KB0.out.trans K1 (fun y hy=>.inl hy)))
  go_still_tail 9,(by kernel_rfl)
  go_wp2_with (go_at_call 200;refine (reckonR (H1.out.below (w':=w1.drew) (by exact Rd.byB)) hm x y okx.out oky.out 2 a (by decide)).mono ?_;rintro e w2 HR2;obtain ⟨rk,rn,rfl,R2⟩:=rrv_m HR2;clear HR2;have KK:=rrm_kp R2;have s0:=KK.cell r0 (fun hk=>nx1 (.inl hk));have s1:=KK.cell r1 (fun hk=>nx1 (.inl hk));have t0:=KK.frz q0 (by first | omega | (simp;omega)) (fun hk=>nx1 (.inl hk));have t1:=KK.frz q1 (by first | omega | (simp;omega)) (fun hk=>nx1 (.inl hk));replace R2:=Lib.hid R2;replace KK:=Lib.hid KK)
  refine bodyPost_ret (v:=.agg #[.int .i64 rk,.int .i64 rn]) (by simp [results,Try.results160,go_sem] <;> go_simp) rfl ?_
  exact give_of (b:=w.heap.size + 1) (by omega) (by first | omega | (simp;omega)) HH.out (R2.out) (F1.out.below (by exact Rd.byB)) z1.out zp.out hkx.out (kb K1.out (by exact Rd.byB)) (by first | exact kp2 _ _ _ _ | exact kp2d _ _ _ _)
end
end Rhw
end Go.Proofs.Ytncmhenfgbcihab
namespace Go.Proofs.Ytncmhenfgbcihab
open Go.RowKit
set_option linter.unusedSimpArgs false
set_option linter.unusedVariables false
namespace Rhw
open Num Rd D Run Mem HierW Hpw
section
variable {E : Ev} {w w' : World} {L L' : RL} {h h' : Hp} {d : Nat} {s : Sv} {P : Pl} {m : Me} {fr : Sf} {vs : Value}
set_option maxRecDepth 100000 in
set_option maxHeartbeats 4000000 in
theorem giv15 (H : RH E w L h d Sv.run) (F : Fr E w L P m fr vs) (hl : fr.stk.length ≤ 1000) (hm : Hier.may E.f.classes = true) (HO : HpOk E.f.classes E.input E.fuel h) (hok : ∀ v ∈ fr.stk, VlOk h.objs.length v) (hn : fr.stk ≠ []) (a b c n : Int) (va : Value) :
    Calls Try.prog 160 #[.pointer (some ⟨E.hb,0,none⟩),.pointer (some ⟨P.cb,0,none⟩),.agg #[.int .i64 15,.int .i64 a,.int .i64 b,.int .i64 c,.int .i64 n,va]] w (GiveR E L P m d w (Run.get E.f.classes (top fr.stk) a b h) ⟨fr.loc,fr.stk.dropLast,fr.at_⟩):=by
  have hKX : ∀ k,KX E L P k → k < w.heap.size:=fun k hk=>by
    rcases hk with hk | hk | hk
    · exact (own_lo H.rows hk).2
    · rw [hk];exact F.cbw
    · rw [hk];exact F.lbw
  have HH:=Lib.hid H
  have hhb0 : E.hb < w.heap.size:=H.rows.base.2
  have hhb1 : E.hb < w.heap.size + 1:=by omega
  obtain ⟨Z,hZ⟩ : ∃ Z : Nat → Prop,Hid (Z = fun k=>P.Z k ∨ k = w.heap.size ∨ k = w.heap.size + 1):=⟨_,rfl⟩
  have HB0 : Below w.heap.size w ((w.alloc (.cells #[.int .i64 15,.int .i64 a,.int .i64 b,.int .i64 c,.int .i64 n,va] 63)).alloc (.cells #[.int .i64 0,.int .i64 0] 104)):=by exact Rd.byB
  have H0:=Lib.hid (H.below HB0)
  have F0:=Lib.hid (F.zone HB0 Z (fun k hk=>by rw [hZ.out] at hk;rcases hk with q | q | q;exact .inl q;exact .inr (by omega);exact .inr (by omega)) (fun k hk=>by rw [hZ.out] at hk;rcases hk with q | q | q;exact Nat.lt_of_lt_of_le (F.zlt k q) HB0.size;(simp;omega);(simp;omega)))
  have nx0 : ¬ KX E L (P.zone Z) w.heap.size:=fun hk=>by have:=hKX _ hk;omega
  have nx1 : ¬ KX E L (P.zone Z) (w.heap.size + 1):=fun hk=>by have:=hKX _ hk;omega
  have z1 : Hid (Z (w.heap.size + 1)):=by show Z _;rw [hZ.out];exact .inr (.inr rfl)
  have zp : Hid (∀ k,P.Z k → Z k):=fun k hk=>by rw [hZ.out];exact .inl hk
  have hkx:=Lib.hid hKX
  have KB0:=Lib.hid (kpB (X:=KX E L P) HB0)
  clear H F hZ HB0 hKX
  obtain ⟨y,hy⟩ : ∃ y,Hid (top fr.stk = y):=⟨_,rfl⟩
  have oky : VlOk h.objs.length y:=by rw [← hy.out];exact hok _ (top_mem hn)
  rw [hy.out]
  replace oky:=Lib.hid oky
  clear hok
  go_enter Try.func160,Try.ntmps160
  go_wp2_with (go_at_call 105;refine (take1R H0.out F0.out hn hl).mono ?_;rintro e w1 ⟨vt,vs1,rfl,V1,F1,H1,K1⟩;have i0:=K1.cell (c:=w.heap.size) (o:=0) (v:=.int .i64 15) (by go_simp) nx0;have i1:=K1.cell (c:=w.heap.size) (o:=1) (v:=.int .i64 a) (by go_simp) nx0;have i2:=K1.cell (c:=w.heap.size) (o:=2) (v:=.int .i64 b) (by go_simp) nx0;have i4:=K1.cell (c:=w.heap.size) (o:=4) (v:=.int .i64 n) (by go_simp) nx0;have r0:=K1.cell (c:=w.heap.size + 1) (o:=0) (v:=.int .i64 0) (by go_simp) nx1;have q0:=K1.frz (c:=w.heap.size + 1) (o:=0) (b:=false) (by go_simp) (by simp) nx1;have r1:=K1.cell (c:=w.heap.size + 1) (o:=1) (v:=.int .i64 0) (by go_simp) nx1;have q1:=K1.frz (c:=w.heap.size + 1) (o:=1) (b:=false) (by go_simp) (by simp) nx1;obtain ⟨vb,vo,vcap,rfl,v1,v2,v3,v4,v5,v6⟩:=VS.one V1;rw [hy.out] at v5 v6;have vne:=vs_ne v4;have vne2:=vne.symm;have hb1:=H1.rows.base.2;have hsz1 : w.heap.size + 1 < w1.heap.size:=(by have:=K1.size;simp at this;omega);have c12:=H1.c12;have f12:=H1.fz 12 (by decide);have f6:=H1.fz 6 (by decide);have c6:=H1.c6;replace V1:=Lib.hid V1;replace F1:=Lib.hid F1;replace H1:=Lib.hid H1;replace K1:=Lib.hid (KB0.out.trans K1 (fun y hy=>.inl hy)))
  go_still_tail 8,(by kernel_rfl)
  go_wp2_with (go_at_call 203;refine (getR (H1.out.below (w':=w1.drew) (by exact Rd.byB)) hm HO y oky.out a b).mono ?_;rintro e w2 HR2;obtain ⟨rk,rn,rfl,R2⟩:=rrv_m HR2;clear HR2;have KK:=rrm_kp R2;have s0:=KK.cell r0 (fun hk=>nx1 (.inl hk));have s1:=KK.cell r1 (fun hk=>nx1 (.inl hk));have t0:=KK.frz q0 (by first | omega | (simp;omega)) (fun hk=>nx1 (.inl hk));have t1:=KK.frz q1 (by first | omega | (simp;omega)) (fun hk=>nx1 (.inl hk));replace R2:=Lib.hid R2;replace KK:=Lib.hid KK)
  refine bodyPost_ret (v:=.agg #[.int .i64 rk,.int .i64 rn]) (by simp [results,Try.results160,go_sem] <;> go_simp) rfl ?_
  exact give_of (b:=w.heap.size + 1) (by omega) (by first | omega | (simp;omega)) HH.out (R2.out) (F1.out.below (by exact Rd.byB)) z1.out zp.out hkx.out (kb K1.out (by exact Rd.byB)) (by first | exact kp2 _ _ _ _ | exact kp2d _ _ _ _)
set_option maxRecDepth 100000 in
set_option maxHeartbeats 4000000 in
theorem giv18 (H : RH E w L h d Sv.run) (F : Fr E w L P m fr vs) (hl : fr.stk.length ≤ 1000) (hm : Hier.may E.f.classes = true) (HO : HpOk E.f.classes E.input E.fuel h) (hok : ∀ v ∈ fr.stk, VlOk h.objs.length v) (hn : fr.stk ≠ []) (a b c n : Int) (va : Value) :
    Calls Try.prog 160 #[.pointer (some ⟨E.hb,0,none⟩),.pointer (some ⟨P.cb,0,none⟩),.agg #[.int .i64 18,.int .i64 a,.int .i64 b,.int .i64 c,.int .i64 n,va]] w (GiveR E L P m d w (Run.isV E.f.classes (top fr.stk) a h) ⟨fr.loc,fr.stk.dropLast,fr.at_⟩):=by
  have hKX : ∀ k,KX E L P k → k < w.heap.size:=fun k hk=>by
    rcases hk with hk | hk | hk
    · exact (own_lo H.rows hk).2
    · rw [hk];exact F.cbw
    · rw [hk];exact F.lbw
  have HH:=Lib.hid H
  have hhb0 : E.hb < w.heap.size:=H.rows.base.2
  have hhb1 : E.hb < w.heap.size + 1:=by omega
  obtain ⟨Z,hZ⟩ : ∃ Z : Nat → Prop,Hid (Z = fun k=>P.Z k ∨ k = w.heap.size ∨ k = w.heap.size + 1):=⟨_,rfl⟩
  have HB0 : Below w.heap.size w ((w.alloc (.cells #[.int .i64 18,.int .i64 a,.int .i64 b,.int .i64 c,.int .i64 n,va] 63)).alloc (.cells #[.int .i64 0,.int .i64 0] 104)):=by exact Rd.byB
  have H0:=Lib.hid (H.below HB0)
  have F0:=Lib.hid (F.zone HB0 Z (fun k hk=>by rw [hZ.out] at hk;rcases hk with q | q | q;exact .inl q;exact .inr (by omega);exact .inr (by omega)) (fun k hk=>by rw [hZ.out] at hk;rcases hk with q | q | q;exact Nat.lt_of_lt_of_le (F.zlt k q) HB0.size;(simp;omega);(simp;omega)))
  have nx0 : ¬ KX E L (P.zone Z) w.heap.size:=fun hk=>by have:=hKX _ hk;omega
  have nx1 : ¬ KX E L (P.zone Z) (w.heap.size + 1):=fun hk=>by have:=hKX _ hk;omega
  have z1 : Hid (Z (w.heap.size + 1)):=by show Z _;rw [hZ.out];exact .inr (.inr rfl)
  have zp : Hid (∀ k,P.Z k → Z k):=fun k hk=>by rw [hZ.out];exact .inl hk
  have hkx:=Lib.hid hKX
  have KB0:=Lib.hid (kpB (X:=KX E L P) HB0)
  clear H F hZ HB0 hKX
  obtain ⟨y,hy⟩ : ∃ y,Hid (top fr.stk = y):=⟨_,rfl⟩
  have oky : VlOk h.objs.length y:=by rw [← hy.out];exact hok _ (top_mem hn)
  rw [hy.out]
  replace oky:=Lib.hid oky
  clear hok
  go_enter Try.func160,Try.ntmps160
  go_wp2_with (go_at_call 105;refine (take1R H0.out F0.out hn hl).mono ?_;rintro e w1 ⟨vt,vs1,rfl,V1,F1,H1,K1⟩;have i0:=K1.cell (c:=w.heap.size) (o:=0) (v:=.int .i64 18) (by go_simp) nx0;have i1:=K1.cell (c:=w.heap.size) (o:=1) (v:=.int .i64 a) (by go_simp) nx0;have i2:=K1.cell (c:=w.heap.size) (o:=2) (v:=.int .i64 b) (by go_simp) nx0;have i4:=K1.cell (c:=w.heap.size) (o:=4) (v:=.int .i64 n) (by go_simp) nx0;have r0:=K1.cell (c:=w.heap.size + 1) (o:=0) (v:=.int .i64 0) (by go_simp) nx1;have q0:=K1.frz (c:=w.heap.size + 1) (o:=0) (b:=false) (by go_simp) (by simp) nx1;have r1:=K1.cell (c:=w.heap.size + 1) (o:=1) (v:=.int .i64 0) (by go_simp) nx1;have q1:=K1.frz (c:=w.heap.size + 1) (o:=1) (b:=false) (by go_simp) (by simp) nx1;obtain ⟨vb,vo,vcap,rfl,v1,v2,v3,v4,v5,v6⟩:=VS.one V1;rw [hy.out] at v5 v6;have vne:=vs_ne v4;have vne2:=vne.symm;have hb1:=H1.rows.base.2;have hsz1 : w.heap.size + 1 < w1.heap.size:=(by have:=K1.size;simp at this;omega);have c12:=H1.c12;have f12:=H1.fz 12 (by decide);have f6:=H1.fz 6 (by decide);have c6:=H1.c6;replace V1:=Lib.hid V1;replace F1:=Lib.hid F1;replace H1:=Lib.hid H1;replace K1:=Lib.hid (KB0.out.trans K1 (fun y hy=>.inl hy)))
  go_still_tail 6,(by kernel_rfl)
  go_wp2_with (go_at_call 204;refine (isR (H1.out.below (w':=w1.drew) (by exact Rd.byB)) hm y oky.out a).mono ?_;rintro e w2 HR2;obtain ⟨rk,rn,rfl,R2⟩:=rrv_m HR2;clear HR2;have KK:=rrm_kp R2;have s0:=KK.cell r0 (fun hk=>nx1 (.inl hk));have s1:=KK.cell r1 (fun hk=>nx1 (.inl hk));have t0:=KK.frz q0 (by first | omega | (simp;omega)) (fun hk=>nx1 (.inl hk));have t1:=KK.frz q1 (by first | omega | (simp;omega)) (fun hk=>nx1 (.inl hk));replace R2:=Lib.hid R2;replace KK:=Lib.hid KK)
  refine bodyPost_ret (v:=.agg #[.int .i64 rk,.int .i64 rn]) (by simp [results,Try.results160,go_sem] <;> go_simp) rfl ?_
  exact give_of (b:=w.heap.size + 1) (by omega) (by first | omega | (simp;omega)) HH.out (R2.out) (F1.out.below (by exact Rd.byB)) z1.out zp.out hkx.out (kb K1.out (by exact Rd.byB)) (by first | exact kp2 _ _ _ _ | exact kp2d _ _ _ _)
set_option maxRecDepth 100000 in
set_option maxHeartbeats 4000000 in
theorem giv17 (H : RH E w L h d Sv.run) (F : Fr E w L P m fr vs) (hl : fr.stk.length ≤ 1000) (hm : Hier.may E.f.classes = true) (HO : HpOk E.f.classes E.input E.fuel h) (hok : ∀ v ∈ fr.stk, VlOk h.objs.length v) (hn : fr.stk ≠ []) (a b c n : Int) (va : Value) :
    Calls Try.prog 160 #[.pointer (some ⟨E.hb,0,none⟩),.pointer (some ⟨P.cb,0,none⟩),.agg #[.int .i64 17,.int .i64 a,.int .i64 b,.int .i64 c,.int .i64 n,va]] w (GiveR E L P m d w ((Run.cast E.f.classes (top fr.stk) a h).bind fun _ h=>.ok (top fr.stk) h) ⟨fr.loc,fr.stk.dropLast,fr.at_⟩):=by
  have hKX : ∀ k,KX E L P k → k < w.heap.size:=fun k hk=>by
    rcases hk with hk | hk | hk
    · exact (own_lo H.rows hk).2
    · rw [hk];exact F.cbw
    · rw [hk];exact F.lbw
  have HH:=Lib.hid H
  have hhb0 : E.hb < w.heap.size:=H.rows.base.2
  have hhb1 : E.hb < w.heap.size + 1:=by omega
  obtain ⟨Z,hZ⟩ : ∃ Z : Nat → Prop,Hid (Z = fun k=>P.Z k ∨ k = w.heap.size ∨ k = w.heap.size + 1):=⟨_,rfl⟩
  have HB0 : Below w.heap.size w ((w.alloc (.cells #[.int .i64 17,.int .i64 a,.int .i64 b,.int .i64 c,.int .i64 n,va] 63)).alloc (.cells #[.int .i64 0,.int .i64 0] 104)):=by exact Rd.byB
  have H0:=Lib.hid (H.below HB0)
  have F0:=Lib.hid (F.zone HB0 Z (fun k hk=>by rw [hZ.out] at hk;rcases hk with q | q | q;exact .inl q;exact .inr (by omega);exact .inr (by omega)) (fun k hk=>by rw [hZ.out] at hk;rcases hk with q | q | q;exact Nat.lt_of_lt_of_le (F.zlt k q) HB0.size;(simp;omega);(simp;omega)))
  have nx0 : ¬ KX E L (P.zone Z) w.heap.size:=fun hk=>by have:=hKX _ hk;omega
  have nx1 : ¬ KX E L (P.zone Z) (w.heap.size + 1):=fun hk=>by have:=hKX _ hk;omega
  have z1 : Hid (Z (w.heap.size + 1)):=by show Z _;rw [hZ.out];exact .inr (.inr rfl)
  have zp : Hid (∀ k,P.Z k → Z k):=fun k hk=>by rw [hZ.out];exact .inl hk
  have hkx:=Lib.hid hKX
  have KB0:=Lib.hid (kpB (X:=KX E L P) HB0)
  clear H F hZ HB0 hKX
  obtain ⟨y,hy⟩ : ∃ y,Hid (top fr.stk = y):=⟨_,rfl⟩
  have oky : VlOk h.objs.length y:=by rw [← hy.out];exact hok _ (top_mem hn)
  rw [hy.out]
  replace oky:=Lib.hid oky
  clear hok
  go_enter Try.func160,Try.ntmps160
  go_wp2_with (go_at_call 105;refine (take1R H0.out F0.out hn hl).mono ?_;rintro e w1 ⟨vt,vs1,rfl,V1,F1,H1,K1⟩;have i0:=K1.cell (c:=w.heap.size) (o:=0) (v:=.int .i64 17) (by go_simp) nx0;have i1:=K1.cell (c:=w.heap.size) (o:=1) (v:=.int .i64 a) (by go_simp) nx0;have i2:=K1.cell (c:=w.heap.size) (o:=2) (v:=.int .i64 b) (by go_simp) nx0;have i4:=K1.cell (c:=w.heap.size) (o:=4) (v:=.int .i64 n) (by go_simp) nx0;have r0:=K1.cell (c:=w.heap.size + 1) (o:=0) (v:=.int .i64 0) (by go_simp) nx1;have q0:=K1.frz (c:=w.heap.size + 1) (o:=0) (b:=false) (by go_simp) (by simp) nx1;have r1:=K1.cell (c:=w.heap.size + 1) (o:=1) (v:=.int .i64 0) (by go_simp) nx1;have q1:=K1.frz (c:=w.heap.size + 1) (o:=1) (b:=false) (by go_simp) (by simp) nx1;obtain ⟨vb,vo,vcap,rfl,v1,v2,v3,v4,v5,v6⟩:=VS.one V1;rw [hy.out] at v5 v6;have vne:=vs_ne v4;have vne2:=vne.symm;have hb1:=H1.rows.base.2;have hsz1 : w.heap.size + 1 < w1.heap.size:=(by have:=K1.size;simp at this;omega);have c12:=H1.c12;have f12:=H1.fz 12 (by decide);have f6:=H1.fz 6 (by decide);have c6:=H1.c6;replace V1:=Lib.hid V1;replace F1:=Lib.hid F1;replace H1:=Lib.hid H1;replace K1:=Lib.hid (KB0.out.trans K1 (fun y hy=>.inl hy)))
  go_still_tail 6,(by kernel_rfl)
  go_wp2_with (go_at_call 169;refine (castR (H1.out.below (w':=w1.drew) (by exact Rd.byB)) hm y oky.out a).mono ?_;rintro e w2 ⟨rfl,R2⟩;have KK:=rru_kp R2;have s0:=KK.cell r0 (fun hk=>nx1 (.inl hk));have s1:=KK.cell r1 (fun hk=>nx1 (.inl hk));have t0:=KK.frz q0 (by first | omega | (simp;omega)) (fun hk=>nx1 (.inl hk));have t1:=KK.frz q1 (by first | omega | (simp;omega)) (fun hk=>nx1 (.inl hk));have u5:=KK.cell v5 (fun hk=>v4 (.inl (.inl hk)));have u6:=KK.cell v6 (fun hk=>v4 (.inl (.inl hk)));replace R2:=Lib.hid R2;replace KK:=Lib.hid KK)
  refine bodyPost_ret (v:=.agg #[.int .i64 y.kind,.int .i64 y.n]) (by simp [results,Try.results160,go_sem] <;> go_simp) rfl ?_
  exact give_of (b:=w.heap.size + 1) (by omega) (by first | omega | (simp;omega)) HH.out (rru_val R2.out) (F1.out.below (by exact Rd.byB)) z1.out zp.out hkx.out (kb K1.out (by exact Rd.byB)) (by first | exact kp2 _ _ _ _ | exact kp2d _ _ _ _)
end
end Rhw
end Go.Proofs.Ytncmhenfgbcihab
