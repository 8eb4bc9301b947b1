/- Parts of the proof: Up, UpW, Hp, Pb, UpG, Pm, Ups. -/
import Derived.Test.YtncmhenfgbcihabGreatG01
import Derived.RangeFuncNested
import Derived.RangeFuncBound
import Derived.RangeFuncCalls
import Derived.RangeFuncLeaves
import Derived.RangeFuncFrom
import Derived.Shelf.Abstract
import Derived.OwnWalkIn
import Derived.TacticsInMore
import Derived.LoopNIn
import Derived.LoopIn
import Derived.Test.YtncmhenfgbcihabGreatG07
import Derived.Test.YtncmhenfgbcihabGreatG02
import Derived.Deep.RegionHeld3
import Derived.Deep.QuietTactic
import Derived.BigQuiet
import Derived.Test.YtncmhenfgbcihabGreatG09
import Derived.StillTailTactics
import Derived.RangeFuncWrites
import Derived.Maps.Own
set_option linter.unusedSimpArgs false
set_option linter.unusedVariables false
set_option maxHeartbeats 8000000
namespace Go.Proofs.YtncmhenfgbcihabGreat
open Go.RowKit
namespace UpW
section
variable {F:Fence}{n:Nat}{P:Program}
def Lets {β:Type}(p:Addr) (J:β→World→Prop):Prop:=∀ s W v,J s W→J s (W.setCell p v)
theorem setCell_obj {W:World}{p:Addr}{v:Value}{k:Nat}{o:Obj}(h:W.heap[k]? = some o) (hc:o.isCells=false):(W.setCell p v).heap[k]? = some o:=by
 simp only [World.setCell,Array.getElem?_modify]
 split
 ·rename_i e
  subst e;rw [h]
  cases o <;> simp_all [Obj.isCells]
 ·exact h
def Gives {α:Type}(F:Fence) (n:Nat) (P:Program) (g:Nat) (lb:Array Value) (encs:α→Array Value) (Kp:World→World→Prop) (S Sp:List α→Prop) (box:Addr) (w:World):Prop :=
 ∀ (l:Nat) (J Jx:List α→World→Prop) (W:World),Kp w W→Lets box J→Lets box Jx →
  (∀ pre x W1,J pre W1→YieldAt F (n - 1) P l (encs x) W1 fun e W' =>
   (e=.returned (.bool true)∧J (pre++[x]) W'∧Kp W1 W')∨(e=.returned (.bool false)∧Jx (pre++[x]) W')) →
  J [] W →
  CallsIn F n P g (#[.func (.yield l) #[] #[]]++lb) W fun e W'=>(∃ v,e=.returned v)∧((∃ xs,S xs∧J xs W')∨(∃ pre,Sp pre∧Jx pre W'))
theorem range {α:Type}{g:Operand}{ps:Array Tmp}{assign body:Code}{Q:Exit→Act→World→Prop}{a:Act}{w:World}
  (hro:F.round=none) (h1:1≤n){gf:Nat}{lb:Array Value}(hg:a.eval g=.func (.func gf) #[] lb) (hFg:F.fn gf) (eg:∀ args w,(callFunc gf args).run P w=.ok (.enter gf args) w)
  {encs:α→Array Value}{Kp:World→World→Prop}{S Sp:List α→Prop}{box:Addr}(hgv:Gives F (n - 1) P gf lb encs Kp S Sp box w)
  (hKt:∀ {A B C:World},Kp A B→Kp B C→Kp A C) (hKr:Kp w w) (hKa:∀ (W:World) (o:Obj),Kp w W→Kp w (W.alloc o))
  (hKb:∀ (W:World) (l:Nat) (o o':Obj),w.heap.size≤l→W.heap[l]? = some o→o.isCells=false→o.isWalk=false→Kp W (W.putObj l o')) (hps:∀ x,(encs x).size=ps.size)
  (I:List α→World→Prop) (Ix:Code→List α→World→Prop) (hI:OwnFrom w.heap.size I) (hIx:∀ c,OwnFrom w.heap.size (Ix c)) (hIb:Lets box I) (hIxb:∀ c,Lets box (Ix c)) (h0:I [] w) (a₁:α→Act)
  (hassign:∀ (l:Nat) (x:α) (W:World) (K:Act→World→Prop),K (a₁ x) W →
   assign.wpIn (F.inRound l) (n - 1 - 1) P (Exit.then K (fun _ _ _=>False)) { tmps:=(ps.zip (encs x)).foldl (fun t (p,v)=>t.setIfInBounds p v) a.tmps,defers:=[] } W)
  (hbody:∀ (l:Nat) (pre:List α) (x:α) (W:World),I pre W→body.wpIn (F.inRound l) (n - 1 - 1) P (ownPostK Kp I Ix (pre++[x]) W) (a₁ x) W)
  (hdone:∀ (D:Nat) (xs:List α) (W:World),w.heap.size≤D→S xs→I xs W→W.heap[D]? = some (.deferred (some []))→Q .normal { a with defers:={ target:=.collected D,args:=#[] } :: a.defers } W)
  (hstop:∀ (D:Nat) (c:Code) (pre:List α) (W:World),w.heap.size≤D→Sp pre→Ix c pre W→W.heap[D]? = some (.deferred (some []))→c.wpIn F n P Q { a with defers:={ target:=.collected D,args:=#[] } :: a.defers } W) :
  (Code.rangeFunc g ps assign body).wpIn F n P Q a w:=by
 refine wpIn_rangeFunc ?_
 intro fn hfn
 rw [hro];obtain ⟨rec,hrec⟩:∃ rec:LoopState→Option Code→Loop,rec=fun st pe=>{ state:=st,pending:=pe,fn,tmps:=a.tmps,params:=ps,assign,body,defers:=w.heap.size }:=⟨_,rfl⟩;obtain ⟨W1,hW1⟩:∃ W1,(w.alloc (.deferred (some []))).alloc (.loop (rec .ready none))=W1:=⟨_,rfl⟩
 have hL1:W1.heap[w.heap.size+1]? = some (.loop (rec .ready none)):=by
  rw [← hW1];have:=World.alloc_heap_new (w.alloc (.deferred (some []))) (.loop (rec .ready none));rwa [World.size_alloc] at this
 have hK1:W1.heap[w.heap.size]? = some (.deferred (some [])):=by
  rw [← hW1];exact (Below.heap_alloc _ _ _ (by simp)).trans (World.alloc_heap_new w _)
 have hI1:I [] W1:=by rw [← hW1];exact hI.alloc _ (hI.alloc _ h0)
 have hb1:Kp w W1:=by rw [← hW1];exact hKa _ _ (hKa _ _ hKr)
 refine ⟨w.heap.size+1,[{ target:=.collected w.heap.size,args:=#[] }],W1,{ target:=.fn (.func gf) lb,args:=#[.func (.yield (w.heap.size+1)) #[] #[]] },W1,gf,
  #[.func (.yield (w.heap.size+1)) #[] #[]]++lb,W1,?_,?_,?_,?_,fun _=>h1,?_⟩
 ·rw [← hW1,hrec];exact run_enterLoop_outer _ _ _ _ _
 ·simp only [resolve,hg];simp [go_sem]
 ·intro f' hf';simp [Target.leads] at hf';subst hf';exact hFg
 ·simp [invoke,go_sem,eg]
 ·refine (hgv (w.heap.size+1)
   (fun pre W=>I pre W∧W.heap[w.heap.size+1]? = some (.loop (rec .ready none))∧W.heap[w.heap.size]? = some (.deferred (some [])))
   (fun pre W=>∃ c,Ix c pre W∧W.heap[w.heap.size+1]? = some (.loop (rec .done (some c)))∧W.heap[w.heap.size]? = some (.deferred (some [])))
   W1 hb1
   (fun s W v hs=>⟨hIb s W v hs.1,setCell_obj hs.2.1 rfl,setCell_obj hs.2.2 rfl⟩)
   (fun s W v hs=>by
    obtain ⟨c,hc,hl,hk⟩:=hs
    exact ⟨c,hIxb c s W v hc,setCell_obj hl rfl,setCell_obj hk rfl⟩)
   ?_ ⟨hI1,hL1,hK1⟩).mono ?_
  ·rintro pre x W ⟨hi,hl,hk⟩;have hlt:w.heap.size+1 < W.heap.size:=(Array.getElem?_eq_some_iff.1 hl).1;have hy:=run_yield (P:=P) (args:=encs x) hl (by rw [hrec];exact hps x)
   rw [hrec] at hy;refine ⟨fn,_,assign,body,hy,roundIn_of_wpIn hfn (hassign _ x W _ ⟨_,run_beginRound hl (by rw [hrec]),?_⟩)⟩
   have hl2:(W.putObj (w.heap.size+1) (.loop { rec .ready none with state:=.busy })).heap[w.heap.size+1]? = some (.loop { rec .ready none with state:=.busy }):=World.putObj_heap_same hlt
   have hk2:(W.putObj (w.heap.size+1) (.loop { rec .ready none with state:=.busy })).heap[w.heap.size]? = some (.deferred (some [])):=(World.putObj_heap_other (by omega)).trans hk
   have hw2:Kp W (W.putObj (w.heap.size+1) (.loop { rec .ready none with state:=.busy })):=hKb _ _ _ _ (by omega) hl rfl rfl
   refine wpIn_mono (hbody _ pre x _ (hI.putObj _ hi (by omega) hl rfl)) ?_
   have fin:∀ (jump:Option Code) (W3:World),KeepsOthers (W.putObj (w.heap.size+1) (.loop { rec .ready none with state:=.busy })) W3 →
     (Instr.endRound (w.heap.size+1) jump).run P W3=.ok (.bool jump.isNone) (W3.putObj (w.heap.size+1) (.loop (rec (if jump.isNone then .ready else .done) jump))) ∧
     W3.heap[w.heap.size+1]? = some (.loop { rec .ready none with state:=.busy }) ∧
     (W3.putObj (w.heap.size+1) (.loop (rec (if jump.isNone then .ready else .done) jump))).heap[w.heap.size+1]? = some (.loop (rec (if jump.isNone then .ready else .done) jump)) ∧
     (W3.putObj (w.heap.size+1) (.loop (rec (if jump.isNone then .ready else .done) jump))).heap[w.heap.size]? = some (.deferred (some [])):=fun jump W3 hk3=>by
    have hl3:=hk3.same _ _ hl2 rfl
    have:=run_endRound (P:=P) jump hl3
    rw [hrec] at this ⊢;exact ⟨this,by rw [hrec] at hl3;exact hl3,World.putObj_heap_same (Array.getElem?_eq_some_iff.1 hl3).1,(World.putObj_heap_other (by omega)).trans (hk3.same _ _ hk2 rfl)⟩
   rintro e a3 W3 hp
   cases e with
   | normal =>
    obtain ⟨hk3,hkp3,hi3⟩:=hp;obtain ⟨hr,hl3,hl4,hk4⟩:=fin none W3 hk3;exact ⟨_,_,hr,.inl ⟨rfl,⟨hI.putObj _ hi3 (by omega) hl3 rfl,hl4,hk4⟩,hKt (hKt hw2 hkp3) (hKb _ _ _ _ (by omega) hl3 rfl rfl)⟩⟩
   | ret =>
    obtain ⟨hk3,hi3⟩:=hp;obtain ⟨hr,hl3,hl4,hk4⟩:=fin (some .ret) W3 hk3;exact ⟨_,_,hr,.inr ⟨rfl,.ret,(hIx _).putObj _ hi3 (by omega) hl3 rfl,hl4,hk4⟩⟩
   | exit id =>
    obtain ⟨hk3,hi3⟩:=hp;obtain ⟨hr,hl3,hl4,hk4⟩:=fin (some (.exit id)) W3 hk3;exact ⟨_,_,hr,.inr ⟨rfl,.exit id,(hIx _).putObj _ hi3 (by omega) hl3 rfl,hl4,hk4⟩⟩
   | goto t =>
    obtain ⟨hk3,hi3⟩:=hp;obtain ⟨hr,hl3,hl4,hk4⟩:=fin (some (.goto t)) W3 hk3;exact ⟨_,_,hr,.inr ⟨rfl,.goto t,(hIx _).putObj _ hi3 (by omega) hl3 rfl,hl4,hk4⟩⟩
   | panic ch=>exact hp.elim
   | outgrown=>exact hp.elim
  ·rintro e W2 ⟨⟨v,rfl⟩,(⟨xs,hS,hi,hl,hk⟩ | ⟨pre,hSp,c,hi,hl,hk⟩)⟩
   ·exact ⟨none,_,by have:=run_endLoop (P:=P) hl (by rw [hrec];simp);rw [hrec] at this;exact this,hdone _ xs _ (Nat.le_refl _) hS (hI.putObj _ hi (by omega) hl rfl) ((World.putObj_heap_other (by omega)).trans hk)⟩
   ·exact ⟨some c,_,by have:=run_endLoop (P:=P) hl (by rw [hrec];simp);rw [hrec] at this;exact this,hstop _ c pre _ (Nat.le_refl _) hSp ((hIx c).putObj _ hi (by omega) hl rfl) ((World.putObj_heap_other (by omega)).trans hk)⟩
end
end UpW
attribute [local go_sem] Oper.semAt_some
namespace UpW
open HierW Rd D Go.Shelf
def boxed (W:World) (b:Nat):Int:=match W.cell? ⟨b,0,none⟩ with | some (.int _ c)=>c | _=>0
theorem boxed_eq {W:World}{b:Nat}{k:IntKind}{c:Int}(h:W.cell? ⟨b,0,none⟩=some (.int k c)):boxed W b=c:=by rw [boxed,h]
theorem up_next {l:List Cls}(hw:Hier.Wf l){c0 c:Int}{pre:List Int}(h:Hier.up l c0=pre++Hier.up l c) (hc:0≤c∧c < l.length):Hier.up l c0=(pre++[c])++Hier.up l (Hier.sup l c):=by
 rw [h,Hier.up_in hw hc];simp
set_option maxRecDepth 100000 in
theorem up1 (F:Fence) (n:Nat) (hF:F.fn 205) (hro:F.round=none) (hn:1≤n) (L B n₀ Bc Bl:Nat) (v:Value) (l:List Cls) (c0:Int) (J Jx:List Int→World→Prop)
  (hJ:Lets ⟨Bc,0,none⟩ J)
  (hY:∀ pre x W,J pre W→YieldAt F (n - 1) Tryz.prog L #[.int .i64 x] W fun e W' =>
   (e=.returned (.bool true)∧J (pre++[x]) W'∧Below n₀ W W')∨(e=.returned (.bool false)∧Jx (pre++[x]) W'))
  (W:World) (h1:W.cell? ⟨Bc,0,none⟩=some (.int .i64 c0)) (h2:W.frozen? ⟨Bc,0,none⟩=false) (h3:W.cell? ⟨Bl,0,none⟩=some v) (hl:Sl 2 ECls W B v l) (hw:Hier.Wf l)
  (hB1:B≤Bc) (hB2:B≤Bl) (hne:Bl≠Bc) (hn1:Bc < n₀) (hn2:Bl < n₀) (h0:J [] W) :
  CallsIn F n Tryz.prog 205 #[.func (.yield L) #[] #[],.pointer (some ⟨Bc,0,none⟩),.pointer (some ⟨Bl,0,none⟩)] W fun e W'=>(∃ v,e=.returned v) ∧
   ((∃ ys,ys=Hier.up l c0∧J ys W')∨(∃ pre,pre <+: Hier.up l c0∧Jx pre W')):=by
 obtain ⟨a,cap,rfl,hlc,hcc,hel⟩:=hl;refine callsIn_of_wp Tryz.func205 rfl hF ?_ hro;simp only [Tryz.ntmps205,List.size_toArray,List.length_cons,List.length_nil,Nat.reduceAdd,Nat.reduceSub,Array.replicate_succ,Array.replicate_zero,List.push_toArray,List.append_toArray,List.nil_append,List.cons_append]
 gi_wp2
 gi_loopw [] (fun wr=>∃ (pre:List Int) (c:Int),Hid (Hier.up l c0=pre++Hier.up l c)∧J pre wr∧wr.cell? ⟨Bc,0,none⟩=some (.int .i64 c)∧wr.frozen? ⟨Bc,0,none⟩=false∧wr.cell? ⟨Bl,0,none⟩=some (.slice a l.length cap)∧Below B W wr)
  (fun wr=>(boxed wr Bc+1).toNat)
 case atStart=>exact ⟨[],c0,rfl,h0,h1,h2,h3,Below.refl _ _⟩
 case round =>
  obtain ⟨pre,c,hup,hj,g1,g2,g3,hbw⟩:=hrel
  by_cases hin:0≤c∧c < l.length
  ·obtain ⟨k,rfl⟩:=Int.eq_ofNat_of_zero_le hin.1;have hk:k < l.length:=by omega
   obtain ⟨b,o,rfl,hb,he⟩:=hel k hk;have hs:=hw k hk;have hup2:=Lib.hid (up_next hw hup.out hin)
   have hsup:Hid (Hier.sup l (k:Int)=(l[k]).sup):=by
    show _=_
    rw [Hier.sup,Int.toNat_natCast,Hier.at_eq hk]
   rw [Hier.at_eq hk] at hs;rw [hsup.out] at hup2;obtain ⟨x,hx⟩:=at_of hk;rw [hx.out] at he hs hup2;obtain ⟨e1,_⟩:=he;obtain ⟨fn,tmps,assign,body,hy,hR⟩:=hY pre k wr hj;have q1:(0:Int)≤k:=by omega
   have hbw':=Lib.hid hbw;have g1':=g1;clear hel hbw
   gi_wp2
   refine hR.mono ?_;rintro e W3 (⟨rfl,hJ3,hk3⟩ | ⟨rfl,hJx3⟩)
   ·have p1:=kept hk3 hn1 g1;have p2:W3.frozen? ⟨Bc,0,none⟩=false:=(hk3.frozen (p:=⟨Bc,0,none⟩) hn1).trans g2;have p3:=kept hk3 hn2 g3;have hb3:Hid (Below B W W3):=hbw'.out.trans (hk3.mono (by omega))
    have p4:=kept hb3.out hb e1;clear g2 g3 e1 hy hk3;have g1'':=Lib.hid g1';clear g1 g1'
    gi_wp2
    go_roundw
    case rel =>
     refine ⟨pre++[(k:Int)],x.sup,hup2,hJ _ _ _ hJ3,World.cell?_setCell_same' _ _ _ (by rw [p1];rfl),(World.frozen?_setCell _ _ _ _).trans p2,?_,hb3.out.setCell (by simp;omega) _⟩
     exact (World.cell?_setCell_other _ _ _ _ (by intro e;injection e with e;exact hne e.symm)).trans p3
    case measure =>
     rw [boxed_eq g1''.out,boxed_eq (World.cell?_setCell_same' W3 ⟨Bc,0,none⟩ (.int .i64 x.sup) (by rw [p1];rfl))]
     omega
   ·gi_wp2
    go_end0
    exact ⟨⟨_,rfl⟩,.inr ⟨pre++[(k:Int)],⟨_,hup2.out.symm⟩,hJx3⟩⟩
  ·have hupe:=Lib.hid (Hier.up_out (l:=l) hin)
   by_cases hc:c < 0
   ·clear hel
    gi_wp2
    refine ⟨fun _ h=>(by cases h),?_⟩
    gi_wp2
    go_end0
    exact ⟨⟨_,rfl⟩,.inl ⟨pre,by rw [hup.out,hupe.out,List.append_nil],hj⟩⟩
   ·clear hel;have q1:(l.length:Int)≤c:=by omega
    gi_wp2
    refine ⟨fun _ h=>(by cases h),?_⟩
    gi_wp2
    go_end0
    exact ⟨⟨_,rfl⟩,.inl ⟨pre,by rw [hup.out,hupe.out,List.append_nil],hj⟩⟩
theorem up1_gives (F:Fence) (n:Nat) (hF:F.fn 205) (hro:F.round=none) (hn:1≤n) (B n₀ Bc Bl:Nat) (v:Value) (l:List Cls) (c0:Int) (w:World)
  (h1:w.cell? ⟨Bc,0,none⟩=some (.int .i64 c0)) (h2:w.frozen? ⟨Bc,0,none⟩=false) (h3:w.cell? ⟨Bl,0,none⟩=some v) (hl:Sl 2 ECls w B v l) (hw:Hier.Wf l)
  (hB1:B≤Bc) (hB2:B≤Bl) (hne:Bl≠Bc) (hn1:Bc < n₀) (hn2:Bl < n₀) :
  Gives F n Tryz.prog 205 #[.pointer (some ⟨Bc,0,none⟩),.pointer (some ⟨Bl,0,none⟩)] (fun x:Int=>#[.int .i64 x]) (Below n₀) (fun ys=>ys=Hier.up l c0) (fun pre=>pre <+: Hier.up l c0) ⟨Bc,0,none⟩ w :=
 fun L J Jx W hk hJ _ hY h0=>up1 F n hF hro hn L B n₀ Bc Bl v l c0 J Jx hJ hY W (kept hk hn1 h1) ((hk.frozen (p:=⟨Bc,0,none⟩) hn1).trans h2) (kept hk hn2 h3) (hl.mono mCls (hk.mono (by omega)) (Nat.le_refl _)) hw hB1 hB2 hne hn1 hn2 h0
theorem up_in (F:Fence) (n:Nat) (hF:F.fn 193) (hro:F.round=none) (a:Option Addr) (k cap:Nat) (c:Int) (w:World) :
  CallsIn F n Tryz.prog 193 #[.slice a k cap,.int .i64 c] w fun e w'=>e=.returned (.func (.func 205) #[] #[.pointer (some ⟨w.heap.size+1,0,none⟩),.pointer (some ⟨w.heap.size,0,none⟩)]) ∧
   (w.alloc (.cells #[.slice a k cap] 22)).alloc (.cells #[.int .i64 c] 3)=w':=by
 refine callsIn_of_wp Tryz.func193 rfl hF ?_ hro;simp only [Tryz.ntmps193,List.size_toArray,List.length_cons,List.length_nil,Nat.reduceAdd,Nat.reduceSub,Array.replicate_succ,Array.replicate_zero,List.push_toArray,List.append_toArray,List.nil_append,List.cons_append]
 gi_wp2
 go_ret;exact ⟨rfl,rfl⟩
theorem cell_new (W:World) (v:Value) (t:TypeId):(W.alloc (.cells #[v] t)).cell? ⟨W.heap.size,0,none⟩=some v∧(W.alloc (.cells #[v] t)).frozen? ⟨W.heap.size,0,none⟩=false:=by
 have h:=World.alloc_heap_new W (.cells #[v] t)
 constructor
 ·unfold World.cell?;rw [h]
  rfl
 ·unfold World.frozen?;rw [h]
  rfl
theorem cell_old {W:World}{a:Addr}{v:Value}(o:Obj) (h:W.cell? a=some v):(W.alloc o).cell? a=some v:=cell_kept h (World.grownBy_alloc W o none) (fun r e=>by cases e)
theorem frozen_old {W:World}{a:Addr}{v:Value}(o:Obj) (h:W.cell? a=some v) (hf:W.frozen? a=false):(W.alloc o).frozen? a=false:=(frozen_kept h (World.grownBy_alloc W o none) (fun r e=>by cases e)).trans hf
set_option maxRecDepth 100000 in
theorem is (v:Value) (l:List Cls) (c d:Int) (w:World) (h:Cs w v l) (hw:Hier.Wf l):Calls Tryz.prog 152 #[v,.int .i64 c,.int .i64 d] w fun e w'=>e=.returned (.bool (Hier.is l c d))∧Below w.heap.size w w':=by
 have h':=h;obtain ⟨a,cap,rfl,_,_,_⟩:=h';refine (callsIn_wide (n:=4)).1 ?_;refine callsIn_of_wp_marks Tryz.func152 rfl trivial ?_ rfl;simp only [Tryz.ntmps152,List.size_toArray,List.length_cons,List.length_nil,Nat.reduceAdd,Nat.reduceSub,Array.replicate_succ,Array.replicate_zero,List.push_toArray,List.append_toArray,List.nil_append,List.cons_append]
 gi_wp2_with (refine ⟨trivial,?_⟩;gi_at_call 193;refine (up_in Fence.wide 3 trivial rfl _ _ _ _ _).mono ?_;rintro e w' ⟨rfl,rfl⟩)
 have c0:=cell_new w (.int .i64 d) 3;have c1:=cell_new (w.alloc (.cells #[.int .i64 d] 3)) (.bool false) 4;have c2:=cell_new ((w.alloc (.cells #[.int .i64 d] 3)).alloc (.cells #[.bool false] 4)) (.slice a l.length cap) 22;have c3:=cell_new (((w.alloc (.cells #[.int .i64 d] 3)).alloc (.cells #[.bool false] 4)).alloc (.cells #[.slice a l.length cap] 22)) (.int .i64 c) 3;simp only [World.size_alloc] at c1 c2 c3;have hB0:Below w.heap.size w ((((w.alloc (.cells #[.int .i64 d] 3)).alloc (.cells #[.bool false] 4)).alloc (.cells #[.slice a l.length cap] 22)).alloc (.cells #[.int .i64 c] 3)):=Rd.byB
 refine range rfl (by omega) (gf:=205) (lb:=#[.pointer (some ⟨w.heap.size+1+1+1,0,none⟩),.pointer (some ⟨w.heap.size+1+1,0,none⟩)]) rfl trivial (enters_of Tryz.func205 (by kernel_rfl) rfl)
  (up1_gives Fence.wide 3 trivial rfl (by omega) w.heap.size (w.heap.size+4) (w.heap.size+1+1+1) (w.heap.size+1+1) _ l c _ c3.1 c3.2 (cell_old _ c2.1) (h.mono mCls hB0 (Nat.le_refl _)) hw (by omega) (by omega) (by omega) (by omega) (by omega))
  belowK_t (Below.refl _ _) (fun W o hW=>hW.alloc (by have:=hW.size;simp at this;omega) _) (belowK_b (by simp)) (fun _=>rfl)
  (fun pre W=>((∀ y∈pre,y≠d)∧W.cell? ⟨w.heap.size,0,none⟩=some (.int .i64 d)∧W.cell? ⟨w.heap.size+1,0,none⟩=some (.bool false)∧W.frozen? ⟨w.heap.size+1,0,none⟩=false)∧Below w.heap.size w W)
  (fun e pre W=>(e=.ret∧d∈pre∧W.cell? ⟨w.heap.size+1,0,none⟩=some (.bool true))∧Below w.heap.size w W)
  (OwnFrom.and (Own.from (fun s A B row hs hg hr=>⟨hs.1,cell_kept hs.2.1 hg hr,cell_kept hs.2.2.1 hg hr,(frozen_kept hs.2.2.1 hg hr).trans hs.2.2.2⟩) _) (ownFrom_below (Nat.le_refl _) (by simp;omega)))
  (fun e=>OwnFrom.and (Own.from (fun s A B row hs hg hr=>⟨hs.1,hs.2.1,cell_kept hs.2.2 hg hr⟩) _) (ownFrom_below (Nat.le_refl _) (by simp;omega)))
  (fun s W u hs=>⟨⟨hs.1.1,(World.cell?_setCell_other _ _ _ _ (by intro e;injection e with e;omega)).trans hs.1.2.1,(World.cell?_setCell_other _ _ _ _ (by intro e;injection e with e;omega)).trans hs.1.2.2.1,(World.frozen?_setCell _ _ _ _).trans hs.1.2.2.2⟩,hs.2.setCell (by simp;omega) _⟩)
  (fun e s W u hs=>⟨⟨hs.1.1,hs.1.2.1,(World.cell?_setCell_other _ _ _ _ (by intro e;injection e with e;omega)).trans hs.1.2.2⟩,hs.2.setCell (by simp;omega) _⟩)
  ⟨⟨by simp,cell_old _ (cell_old _ (cell_old _ c0.1)),cell_old _ (cell_old _ c1.1),frozen_old _ (cell_old _ c1.1) (frozen_old _ c1.1 c1.2)⟩,hB0⟩
  (fun x=>{ tmps:=#[.slice a l.length cap,.int .i64 c,.int .i64 d,undef,undef,.pointer (some ⟨w.heap.size,0,none⟩),.pointer (some ⟨w.heap.size+1,0,none⟩),.int .i64 x,.slice a l.length cap,.int .i64 c,.func (.func 205) #[] #[.pointer (some ⟨w.heap.size+1+1+1,0,none⟩),.pointer (some ⟨w.heap.size+1+1,0,none⟩)],.int .i64 x,undef,undef,undef],defers:=[] }) ?assign ?body ?done ?stop
 case assign =>
  intro L x W K hK
  gi_wp2
  exact hK
 case body =>
  rintro L pre x W ⟨⟨hp,hcw,hcr,hfr⟩,hB⟩
  gi_wp2
  ·rename_i hx
   obtain rfl:x=d:=eq_of_beq hx
   exact ⟨KeepsOthers.setCell _ _ _,⟨rfl,List.mem_append.2 (.inr (by simp)),World.cell?_setCell_same' _ _ _ (by rw [hcr];rfl)⟩,hB.setCell (p:=⟨w.heap.size+1,0,none⟩) (by simp) _⟩
  ·rename_i hx
   exact ⟨KeepsOthers.refl _,Below.refl _ _,⟨fun y hy=>(List.mem_append.1 hy).elim (hp y) (fun e e'=>by simp at e;subst e;subst e';simp at hx),hcw,hcr,hfr⟩,hB⟩
 case done =>
  rintro D ys W hD rfl ⟨⟨hne,_,hcr,hfr⟩,hB⟩ hK
  gi_wp2
  have hK':=(KeepsOthers.setCell W ⟨w.heap.size+1,0,none⟩ (.bool false)).same D _ hK rfl;refine ⟨by simp,.inl ⟨_,_,rfl,run_takeDeferred hK',?_⟩⟩
  have hc5:=cell_kept (World.cell?_setCell_same' W ⟨w.heap.size+1,0,none⟩ (.bool false) (by rw [hcr];rfl)) (grownBy_putObj' _ D (.deferred none)) (fun r e=>by cases e;exact ⟨_,hK',rfl⟩)
  have hno:Hier.is l c d=false:=by
   unfold Hier.is;rw [Bool.eq_false_iff]
   intro hc
   exact hne d (by simpa using hc) rfl
  refine ⟨.bool false,?_,by rw [hno],(hB.setCell (p:=⟨w.heap.size+1,0,none⟩) (by simp) _).trans (belowK_b (w:=w) (Nat.le_refl _) _ D _ _ (by simp at hD;omega) hK' rfl rfl)⟩
  simp [results,Tryz.f152,go_sem,hc5]
 case stop =>
  rintro D e pre W hD hpre ⟨⟨rfl,hin,hcr⟩,hB⟩ hK
  gi_wp2
  refine ⟨by simp,.inl ⟨_,_,rfl,run_takeDeferred hK,?_⟩⟩
  have hc5:=cell_kept hcr (grownBy_putObj' _ D (.deferred none)) (fun r e=>by cases e;exact ⟨_,hK,rfl⟩)
  have hyes:Hier.is l c d=true:=by
   unfold Hier.is
   simpa using hpre.subset hin
  refine ⟨.bool true,?_,by rw [hyes],hB.trans (belowK_b (w:=w) (Nat.le_refl _) W D _ _ (by simp at hD;omega) hK rfl rfl)⟩
  simp [results,Tryz.f152,go_sem,hc5]
theorem lt_cell {W:World}{b o:Nat}{v:Value}(h:W.cell? ⟨b,o,none⟩=some v):b < W.heap.size:=by
 obtain ⟨x,hx,_⟩:=cells_of_cell h;exact (Array.getElem?_eq_some_iff.1 hx).1
theorem keeps_below {W W':World}(h:Below W.heap.size W W'):KeepsOthers W W':=by
 refine ⟨h.size,fun k o hk _=>?_⟩;rw [h.block k (Array.getElem?_eq_some_iff.1 hk).1];exact hk
end UpW
namespace Hpw
open Num Rd D Run Mem HierW
structure Lay where
 vo:Value
 vb:Value
 mbs:List Nat
def own (E:Ev) (L:Lay) (k:Nat):Prop:=k=E.hb∨L.vo.ownBlock=some k∨L.vb.ownBlock=some k∨k∈L.mbs
def look (l:List ((Int × Int) × Vl)) (k:Int × Int):Option Vl:=(l.find? fun x=>decide (x.1=k)).map (·.2)
def keyV (k:Int × Int):Value:=.agg #[.int .i64 k.1,.int .i64 k.2]
def MapIs (es:Array MapEntry) (held:List ((Int × Int) × Vl)):Prop :=
 ∃ pm:List ((Int × Int) × Vl),es.toList.map (fun e=>(e.key,e.val))=pm.map (fun x=>(keyV x.1,vval x.2))∧∀ k,look pm k=look held k
def ocell (o:Ob) (b:Nat):List Value:=[.int .i64 o.cls,.map (some b)]
def ocells:List Ob→List Nat→List Value
 | o :: os,b :: bs=>ocell o b++ocells os bs
 | _,_=>[]
structure PH (E:Ev) (w:World) (L:Lay) (h:Hp) (d:Nat):Prop where
 cells:Blk w E.hb [E.vc,E.vm,.int .i64 0,.int .i64 0,.int .i64 0,L.vo,.int .i64 h.used,.int .i64 h.steps,L.vb,E.vi,.int .i64 d,.int .i64 E.fuel]
 cls:Sl 2 ECls w E.B E.vc E.f.classes
 mes:Sl 8 EMe w E.B E.vm E.f.methods
 inp:Sl 1 EInt w E.B E.vi E.input
 out:w.ownsRow E.B 2 1 L.vo h.out.length (h.out.map (.int .i64 ·))
 objs:w.ownsRow E.B 93 2 L.vb h.objs.length (ocells h.objs L.mbs)
 many:L.mbs.length=h.objs.length
 maps:∀ i (hi:i < L.mbs.length),∃ es clock,w.heap[L.mbs[i]]? = some (.map es clock)∧MapIs es (h.objs.getD i nilOb).held
 base:E.B≤E.hb∧E.hb < w.heap.size∧∀ b∈L.mbs,E.B≤b
 apart:L.vo.ownBlock≠some E.hb∧L.vb.ownBlock≠some E.hb∧(∀ k,L.vo.ownBlock=some k→L.vb.ownBlock≠some k)
 nodup:L.mbs.Nodup
theorem own_lo {E:Ev}{w:World}{L:Lay}{h:Hp}{d:Nat}(H:PH E w L h d){k:Nat}(hk:own E L k):E.B≤k∧k < w.heap.size:=by
 rcases hk with e | e | e | e
 ·subst e;exact ⟨H.base.1,H.base.2.1⟩
 ·exact World.ownsRow.lt H.out k e
 ·exact World.ownsRow.lt H.objs k e
 ·refine ⟨H.base.2.2 k e,?_⟩;obtain ⟨i,hi,rfl⟩:=List.getElem_of_mem e;obtain ⟨es,c,h1,_⟩:=H.maps i hi;exact (Array.getElem?_eq_some_iff.1 h1).1
theorem PH.keep {E:Ev}{w w':World}{L:Lay}{h:Hp}{d:Nat}(H:PH E w L h d){X:Nat→Prop}(hk:Kp X w w') (hX:∀ k,X k→E.B≤k∧¬ own E L k):PH E w' L h d:=by
 have hB:E.B≤w.heap.size:=Nat.le_trans H.base.1 (Nat.le_of_lt H.base.2.1);have hlo:∀ k,X k→E.B≤k:=fun k h=>(hX k h).1;refine ⟨H.cells.next hk (fun h=>(hX _ h).2 (.inl rfl)),hk.sl mCls H.cls hB hlo,hk.sl mMe H.mes hB hlo,hk.sl mInt H.inp hB hlo,row_keep H.out hk (fun g hg h=>(hX g h).2 (.inr (.inl hg))),row_keep H.objs hk (fun g hg h=>(hX g h).2 (.inr (.inr (.inl hg)))),H.many,fun i hi=>?_,⟨H.base.1,Nat.lt_of_lt_of_le H.base.2.1 hk.size,H.base.2.2⟩,H.apart,H.nodup⟩;obtain ⟨es,c,h1,h2⟩:=H.maps i hi;exact ⟨es,c,by rw [hk.block _ (Array.getElem?_eq_some_iff.1 h1).1 (fun h=>(hX _ h).2 (.inr (.inr (.inr (List.getElem_mem hi)))))];exact h1,h2⟩
theorem PH.below {E:Ev}{w w':World}{L:Lay}{h:Hp}{d:Nat}(H:PH E w L h d) (hb:Below w.heap.size w w'):PH E w' L h d :=
 H.keep (X:=fun _=>False) (Kp.of_below hb (Nat.le_refl _)) (fun _ h=>h.elim)
theorem ocells_get:∀ (os:List Ob) (bs:List Nat) (i:Nat),bs.length=os.length→(hi:i < os.length)→(ocells os bs)[2*i]? = some (.int .i64 (os.getD i nilOb).cls)∧(ocells os bs)[2*i+1]? = some (.map (some (bs.getD i 0))):=by
 intro os
 induction os with
 | nil=>intro bs i _ hi;simp at hi
 | cons o os ih =>
  intro bs i h hi
  cases bs with
  | nil=>simp at h
  | cons b bs =>
   cases i with
   | zero=>simp [ocells,ocell]
   | succ i =>
    have:=ih bs i (by simpa using h) (by simpa using hi)
    have e1:2*(i+1)=(2*i)+2:=by omega
    have e2:2*(i+1)+1=(2*i+1)+2:=by omega
    rw [e2,e1]
    simpa [ocells,ocell] using this
theorem PH.ob {E:Ev}{w:World}{L:Lay}{h:Hp}{d:Nat}(H:PH E w L h d){n:Int}(h0:0≤n) (h1:n < h.objs.length):∃ g cap,L.vb=.slice (some ⟨g,0,none⟩) h.objs.length cap∧h.objs.length≤cap∧cap≤9223372036854775807∧g < w.heap.size∧g≠E.hb∧w.cell? ⟨g,n.toNat*2,none⟩=some (.int .i64 (obj h n).cls)∧w.cell? ⟨g,n.toNat*2+1,none⟩=some (.map (some (L.mbs.getD n.toNat 0))):=by
 obtain ⟨g,cap,hv,c1,c2,_,hg⟩:=row_form H.objs (by omega)
 have hap:=H.apart;have ho:=H.objs;have hm:=H.many;rw [hv] at ho hap;refine ⟨g,cap,hv,c1,c2,hg,fun e=>?_,?_,?_⟩
 ·subst e;exact hap.2.1 rfl
 ·have:=(ocells_get h.objs L.mbs n.toNat hm (by omega)).1
  rw [Nat.mul_comm] at this;exact row_cell ho this
 ·have:=(ocells_get h.objs L.mbs n.toNat hm (by omega)).2
  rw [Nat.mul_comm] at this;exact row_cell ho this
def stopV (e:Int):Value:=.iface 88 (.agg #[.int .i64 e])
def thrownV (o:Int):Value:=.iface 90 (.agg #[.int .i64 o])
def Pan (v:Value) (e:Ending):Prop:=∃ older:List PanicEntry,(∀ x∈older,x.goexit=false)∧e=.panicked ({ v:=v,recovered:=false } :: older)
theorem Pan.one (v:Value):Pan v (.panicked [{ v:=v,recovered:=false }]):=⟨[],fun _ h=>absurd h (by simp),rfl⟩
theorem mustT (w:World):Calls Tryz.prog 97 #[.bool true] w fun e w'=>e=.returned (.tuple #[])∧w=w':=by
 go_enter Tryz.func97,Tryz.ntmps97
 go_wp2
 go_end0
 exact ⟨rfl,rfl⟩
theorem mustF (w:World):Calls Tryz.prog 97 #[.bool false] w fun e w'=>e=.panicked [{ v:=stopV 6,recovered:=false }]∧w=w':=by
 go_enter Tryz.func97,Tryz.ntmps97
 go_wp2
 refine And.intro rfl ?_;exact ⟨rfl,rfl⟩
theorem zero (t:Ty) (w:World):Calls Tryz.prog 195 #[.agg #[.int .i64 t.kind,.int .i64 t.cls]] w fun e w'=>e=.returned (vval (Run.zero t))∧Below w.heap.size w w':=by
 obtain ⟨k,c⟩:=t
 by_cases hk:k=3
 ·subst hk;have hz:Hid (vval (Run.zero ⟨3,c⟩)=.agg #[.int .i64 3,.int .i64 (-1)]):=rfl
  go_enter Tryz.func195,Tryz.ntmps195
  go_wp2
  refine bodyPost_ret (v:=.agg #[.int .i64 3,.int .i64 (-1)]) (by simp [results,Tryz.results195,go_sem]) rfl ?_
  exact ⟨by rw [hz.out],Rd.byB⟩
 ·have hz:Hid (vval (Run.zero ⟨k,c⟩)=.agg #[.int .i64 k,.int .i64 0]):=by
   show _=_
   unfold vval Run.zero;rw [if_neg hk]
  have hkb:(k==3)=false:=by simpa using hk
  go_enter Tryz.func195,Tryz.ntmps195
  go_wp2
  refine bodyPost_ret (v:=.agg #[.int .i64 k,.int .i64 0]) (by simp [results,Tryz.results195,go_sem]) rfl ?_
  exact ⟨by rw [hz.out],Rd.byB⟩
set_option maxRecDepth 100000 in
theorem of (E:Ev) (L:Lay) (h:Hp) (d:Nat) (v:Vl) (t:Ty) (w:World) (H:PH E w L h d) (hm:Hier.may E.f.classes=true) (hv:v.kind=3→v.n < h.objs.length) :
  Calls Tryz.prog 98 #[.pointer (some ⟨E.hb,0,none⟩),vval v,.agg #[.int .i64 t.kind,.int .i64 t.cls]] w fun e w'=>e=.returned (.bool (ofT E.f.classes h v t))∧Below w.heap.size w w':=by
 have HH:=Lib.hid H;have hhb:=H.base.2.1;obtain ⟨kd,n⟩:=v;obtain ⟨tk,tc⟩:=t
 by_cases q1:kd=tk
 ·subst q1
  by_cases q2:kd=3
  ·subst q2
   by_cases q3:n < 0
   ·have e1:Hid (ofT E.f.classes h ⟨3,n⟩ ⟨3,tc⟩=true):=by show _=_;simp [ofT,q3]
    unfold vval
    go_enter Tryz.func98,Tryz.ntmps98
    go_wp2
    go_quiet (fail)
    go_wp2
    go_ret;exact ⟨ret_bool e1.out.symm,below_drewN Rd.byB _⟩
   ·have hn:n < h.objs.length:=hv rfl;obtain ⟨g,cap,hvb,c1,c2,hg,hgne,o1,_⟩:=H.ob (n:=n) (by simpa using q3) hn
    have b0:=(H.cells 0 (by simp)).1
    have b8:=(H.cells 8 (by simp)).1
    simp only [List.getElem_cons_zero,List.getElem_cons_succ] at b0 b8;rw [hvb] at b8;obtain ⟨ca,ccap,hvc,_⟩:=H.cls;have e1:Hid (ofT E.f.classes h ⟨3,n⟩ ⟨3,tc⟩=Hier.is E.f.classes (obj h n).cls tc):=by show _=_;simp [ofT,q3]
    have hn0:0≤n:=by omega
    have hC:Cs w E.vc E.f.classes:=H.cls.mono mCls (Below.refl _ _) (Nat.le_of_lt (Nat.lt_of_le_of_lt H.base.1 hhb));have HC:=Lib.hid hC;have hq3:decide (n < 0)=false:=by simpa using q3
    have hwf:=Lib.hid (Hier.wf_of_may hm);have hlt2:n.toNat < h.objs.length:=by omega
    have hI:n < h.objs.length:=hn;rw [hvc] at b0 HC;clear H hv hvb hvc hn hC;unfold vval
    go_enter Tryz.func98,Tryz.ntmps98
    go_wp2
    refine Drawn.hd (fun w'=>w'.cell? ⟨E.hb,0,none⟩=some (.slice ca E.f.classes.length ccap)∧w'.cell? ⟨E.hb,8,none⟩=some (.slice (some ⟨g,0,none⟩) h.objs.length cap)∧w'.cell? ⟨g,n.toNat*2,none⟩=some (.int .i64 (obj h n).cls)∧w'.cell? ⟨w.heap.size,0,none⟩=some (.int .i64 3)∧w'.cell? ⟨w.heap.size,1,none⟩=some (.int .i64 n)∧w'.cell? ⟨w.heap.size+1,0,none⟩=some (.int .i64 3)∧w'.cell? ⟨w.heap.size+1,1,none⟩=some (.int .i64 tc)) (h:=fun hHeld=>?_);refine dT 0 7 ?_;refine dT 1 8 ?_;refine dT 2 9 ?_;refine dT 3 10 ?_;refine dT 4 11 ?_;refine dT 5 12 ?_;refine dT 6 13 ?_;refine dT 7 14 ?_;refine dT 8 15 ?_;refine dT 9 16 ?_;refine dT 10 17 ?_;refine dT 11 18 ?_;refine dT 12 19 ?_;refine dT 13 20 ?_;refine dT 14 21 ?_;refine dT 15 22 ?_;refine dT 16 23 ?_;refine dT 17 24 ?_;refine dT 18 25 ?_;refine dT 19 26 ?_;refine dT 20 27 ?_;refine dT 21 28 ?_;refine dT 22 29 ?_;refine dT 23 30 ?_;refine dT 24 31 ?_;refine dT 25 32 ?_;refine dT 26 33 ?_;refine dT 27 34 ?_;refine dT 28 35 ?_;refine dT 29 36 ?_;refine dT 30 37 ?_;refine Drawn.cl 31 (fun K hK=>?_);go_simp
    go_at_call 152
    refine (UpW.is _ E.f.classes (obj h n).cls tc _ (HC.out.next (by exact Rd.byB)) hwf.out).mono ?_
    rintro e w1 ⟨rfl,hb1⟩;have kk:∀ (b o:Nat) (u:Value),World.cell? _ ⟨b,o,none⟩=some u→w1.cell? ⟨b,o,none⟩=some u:=fun b o u hc=>kept hb1 (cell_lt hc) hc;have y0:=kk E.hb 0 (.slice ca E.f.classes.length ccap) (by go_simp)
    have y1:=kk E.hb 8 (.slice (some ⟨g,0,none⟩) h.objs.length cap) (by go_simp)
    have y2:=kk g (n.toNat*2) (.int .i64 (obj h n).cls) (by go_simp)
    have y3:=kk w.heap.size 0 (.int .i64 3) (by go_simp)
    have y4:=kk w.heap.size 1 (.int .i64 n) (by go_simp)
    have y5:=kk (w.heap.size+1) 0 (.int .i64 3) (by go_simp)
    have y6:=kk (w.heap.size+1) 1 (.int .i64 tc) (by go_simp)
    have HB1:=Lib.hid (show Below w.heap.size w w1 from Below.trans (by exact Rd.byB) (hb1.mono (by simp <;> omega)))
    clear kk hb1
    go_wp2_with fail
    refine Drawn.bk hK (hS:=by (try dsimp only);exact ⟨y0,y1,y2,y3,y4,y5,y6⟩) (h:=fun hHeld=>?_)
    clear hK K;refine dT 32 39 ?_;refine dT 33 40 ?_;refine dT 34 6 ?_;refine dN ?_
    go_wp2_with fail
    go_ret;exact ⟨ret_bool e1.out.symm,HB1.out⟩
  ·have e1:Hid (ofT E.f.classes h ⟨kd,n⟩ ⟨kd,tc⟩=true):=by show _=_;simp [ofT,q2]
   have hb:(kd != 3)=true:=by simpa using q2
   unfold vval
   go_enter Tryz.func98,Tryz.ntmps98
   go_wp2
   go_quiet (fail)
   go_wp2
   go_ret;exact ⟨ret_bool e1.out.symm,below_drewN Rd.byB _⟩
 ·have e1:Hid (ofT E.f.classes h ⟨kd,n⟩ ⟨tk,tc⟩=false):=by show _=_;simp [ofT,q1]
  have hb:(kd==tk)=false:=by simpa using q1
  unfold vval
  go_enter Tryz.func98,Tryz.ntmps98
  go_wp2
  go_quiet (fail)
  go_wp2
  go_ret;exact ⟨ret_bool e1.out.symm,below_drewN Rd.byB _⟩
end Hpw
namespace Hpw
open Num Rd D Run Mem HierW
def cellsP (E:Ev) (L:Lay) (h:Hp) (d:Nat):List Value:=[E.vc,E.vm,.int .i64 0,.int .i64 0,.int .i64 0,L.vo,.int .i64 h.used,.int .i64 h.steps,L.vb,E.vi,.int .i64 d,.int .i64 E.fuel]
theorem kb {X:Nat→Prop}{w0 w1 w2:World}(K:Kp X w0 w1) (hb:Below w1.heap.size w1 w2):Kp X w0 w2:=K.trans (Kp.of_below (X:=fun _=>False) hb (Nat.le_refl _)) (fun _ h=>h.elim)
theorem kpB {X:Nat→Prop}{w0 w1:World}(h:Below w0.heap.size w0 w1):Kp X w0 w1:=Kp.of_below h (Nat.le_refl _)
section
variable {E:Ev}{w w':World}{L L':Lay}{h h':Hp}{d:Nat}
theorem PH.cs (H:PH E w L h d):Blk w E.hb (cellsP E L h d):=H.cells
theorem PH.fz (H:PH E w L h d) (k:Nat) (hk:k < 12):w.frozen? ⟨E.hb,k,none⟩=false:=(H.cs k (by simpa [cellsP] using hk)).2
theorem PH.c0 (H:PH E w L h d):w.cell? ⟨E.hb,0,none⟩=some E.vc:=(H.cs 0 (by simp [cellsP])).1
theorem PH.c1 (H:PH E w L h d):w.cell? ⟨E.hb,1,none⟩=some E.vm:=(H.cs 1 (by simp [cellsP])).1
theorem PH.c5 (H:PH E w L h d):w.cell? ⟨E.hb,5,none⟩=some L.vo:=(H.cs 5 (by simp [cellsP])).1
theorem PH.c6 (H:PH E w L h d):w.cell? ⟨E.hb,6,none⟩=some (.int .i64 h.used):=(H.cs 6 (by simp [cellsP])).1
theorem PH.c7 (H:PH E w L h d):w.cell? ⟨E.hb,7,none⟩=some (.int .i64 h.steps):=(H.cs 7 (by simp [cellsP])).1
theorem PH.c8 (H:PH E w L h d):w.cell? ⟨E.hb,8,none⟩=some L.vb:=(H.cs 8 (by simp [cellsP])).1
theorem PH.c9 (H:PH E w L h d):w.cell? ⟨E.hb,9,none⟩=some E.vi:=(H.cs 9 (by simp [cellsP])).1
theorem PH.c10 (H:PH E w L h d):w.cell? ⟨E.hb,10,none⟩=some (.int .i64 d):=(H.cs 10 (by simp [cellsP])).1
theorem PH.c11 (H:PH E w L h d):w.cell? ⟨E.hb,11,none⟩=some (.int .i64 E.fuel):=(H.cs 11 (by simp [cellsP])).1
theorem PH.hbw (H:PH E w L h d):E.hb < w.heap.size:=H.base.2.1
theorem hb_no (H:PH E w L h d):L.vo.ownBlock≠some E.hb∧L.vb.ownBlock≠some E.hb∧E.hb∉L.mbs:=by
 refine ⟨H.apart.1,H.apart.2.1,fun hm=>?_⟩;obtain ⟨i,hi,e⟩:=List.getElem_of_mem hm;obtain ⟨es,c,h1,_⟩:=H.maps i hi;rw [e] at h1;have h2:=(H.cs 0 (by simp [cellsP])).1
 unfold World.cell? at h2;simp [h1] at h2
theorem PH.set (H:PH E w L h d) (k:Nat) (hk:k < 12) (x:Value){h':Hp}{d':Nat}(h1:h'.objs=h.objs) (h2:h'.out=h.out) (e:(cellsP E L h d).set k x=cellsP E L h' d'):PH E (w.setCell ⟨E.hb,k,none⟩ x) L h' d':=by
 have hK:Kp (fun k=>k=E.hb) w (w.setCell ⟨E.hb,k,none⟩ x):=Kp.setCell (Kp.refl (fun k=>k=E.hb) w) (p:=⟨E.hb,k,none⟩) (.inl rfl) x;have hB:E.B≤w.heap.size:=Nat.le_trans H.base.1 (Nat.le_of_lt H.base.2.1);have hlo:∀ k,k=E.hb→E.B≤k:=fun k h=>by rw [h];exact H.base.1
 obtain ⟨n1,n2,n3⟩:=hb_no H;refine ⟨?_,hK.sl mCls H.cls hB hlo,hK.sl mMe H.mes hB hlo,hK.sl mInt H.inp hB hlo,by rw [h2];exact row_keep H.out hK (fun g hg e=>by subst e;exact n1 hg),by rw [h1];exact row_keep H.objs hK (fun g hg e=>by subst e;exact n2 hg),by rw [h1];exact H.many,fun i hi=>?_,⟨H.base.1,Nat.lt_of_lt_of_le H.base.2.1 hK.size,H.base.2.2⟩,H.apart,H.nodup⟩
 ·have:=H.cs.set k (by simpa [cellsP] using hk) x
  rw [e] at this;exact this
 ·obtain ⟨es,c,g1,g2⟩:=H.maps i hi;rw [h1];exact ⟨es,c,by rw [hK.block _ (Array.getElem?_eq_some_iff.1 g1).1 (fun e=>n3 (e ▸ List.getElem_mem hi))];exact g1,g2⟩
theorem kp_hb (E:Ev) (L:Lay) (w:World) (k:Nat) (x:Value):Kp (own E L) w (w.setCell ⟨E.hb,k,none⟩ x):=Kp.setCell (Kp.refl (own E L) w) (p:=⟨E.hb,k,none⟩) (.inl (.inl rfl)) x
theorem fresh_b (H:PH E w L h d){b:Nat}(hb:w.heap.size≤b):E.B≤b∧¬ own E L b:=⟨by have:=H.base;omega,fun hk=>by have:=(own_lo H hk).2;omega⟩
theorem same_own:∀ k,own E L k→own E L k∨w.heap.size≤k:=fun k hk=>.inl hk
theorem PH.res (H:PH E w L h d){b:Nat}(h1:E.B≤b) (h2:¬ own E L b) (j:Nat) (x:Value):PH E (w.setCell ⟨b,j,none⟩ x) L h d :=
 H.keep (X:=fun k=>k=b) (Kp.setCell (Kp.refl (fun k=>k=b) w) (p:=⟨b,j,none⟩) (.inl rfl) x) (fun k e=>by subst e;exact ⟨h1,h2⟩)
def stepped (h:Hp):Hp:={ h with steps:=h.steps+1 }
def used1 (h:Hp):Hp:={ h with used:=h.used+1 }
def pan (v:Value):Ending:=.panicked [{ v:=v,recovered:=false }]
def Lft (E:Ev) (L:Lay) (d:Nat) (w w':World) (h:Hp):Prop:=∃ L',Kp (own E L) w w'∧(∀ k,own E L' k→own E L k∨w.heap.size≤k)∧PH E w' L' h d
theorem Lft.of_below (H:PH E w L h d) (hb:Below w.heap.size w w'):Lft E L d w w' h:=⟨L,kpB hb,same_own,H.below hb⟩
theorem stepOk (H:PH E w L h d) (q:h.steps < E.fuel) (hf:E.fuel≤60000):Calls Tryz.prog 104 #[.pointer (some ⟨E.hb,0,none⟩)] w fun e w'=>e=.returned (.tuple #[])∧PH E w' L (stepped h) d∧Kp (own E L) w w':=by
 have HH:=Lib.hid H;have c7:=H.c7;have c11:=H.c11;have f7:=H.fz 7 (by decide)
 have hhb:=H.hbw;have hd:decide ((E.fuel:Int)≤h.steps)=false:=by simp;omega
 clear H
 go_enter Tryz.func104,Tryz.ntmps104
 go_wp2
 go_quiet (fail)
 go_wp2
 go_end0
 have HB:=Lib.hid (HH.out.below (w':=w.drewN nq) (below_drewN (by exact Rd.byB) nq))
 refine ⟨rfl,HB.out.set 7 (by decide) _ rfl rfl ?_,(kpB (below_drewN (by exact Rd.byB) nq)).trans (kp_hb E L _ 7 _) (fun _ h=>.inl h)⟩
 simp [cellsP,stepped]
theorem stepFull (H:PH E w L h d) (q:E.fuel≤h.steps):Calls Tryz.prog 104 #[.pointer (some ⟨E.hb,0,none⟩)] w fun e w'=>e=pan (stopV 0)∧Below w.heap.size w w':=by
 have c7:=H.c7;have c11:=H.c11;have hd:decide ((E.fuel:Int)≤h.steps)=true:=by simp;omega
 go_enter Tryz.func104,Tryz.ntmps104
 go_wp2
 go_quiet (fail)
 go_wp2
 refine And.intro rfl ?_;exact ⟨rfl,below_drewN (by exact Rd.byB) nq⟩
theorem inStop (H:PH E w L h d) (q:E.input.length≤h.used):Calls Tryz.prog 169 #[.pointer (some ⟨E.hb,0,none⟩)] w fun e w'=>e=pan (stopV 3)∧Below w.heap.size w w':=by
 have c6:=H.c6;have c9:=H.c9;have hhb:=H.hbw;obtain ⟨ia,icap,hvi,i1,i2,iel⟩:=H.inp;rw [hvi] at c9;have hd:decide ((E.input.length:Int)≤h.used)=true:=by simp;omega
 clear iel
 go_enter Tryz.func169,Tryz.ntmps169
 go_wp2
 go_quiet (fail)
 go_wp2
 refine And.intro rfl ?_;exact ⟨rfl,below_drewN (by exact Rd.byB) nq⟩
set_option maxRecDepth 100000 in
theorem inOk (H:PH E w L h d) (q:h.used < E.input.length) (hl:E.input.length≤1000):Calls Tryz.prog 169 #[.pointer (some ⟨E.hb,0,none⟩)] w fun e w'=>e=.returned (vval ⟨2,E.input.getD h.used 0⟩)∧PH E w' L (used1 h) d∧Kp (own E L) w w':=by
 have HH:=Lib.hid H;have c6:=H.c6;have c9:=H.c9;have f6:=H.fz 6 (by decide)
 have hhb:=H.hbw;obtain ⟨ia,icap,hvi,i1,i2,iel⟩:=H.inp;rw [hvi] at c9;obtain ⟨b,o,rfl,hb,he⟩:=iel h.used q;have hxx:Hid (E.input.getD h.used 0=E.input[h.used]):=by show _=_;rw [List.getD_eq_getElem?_getD,List.getElem?_eq_getElem q];rfl
 obtain ⟨x,hx⟩:=at_of q;rw [hx.out] at he hxx;replace he:=he.1;rw [Nat.mul_one] at he;have hbne:b≠E.hb:=by have:=H.base.1;omega
 have hbw:b < w.heap.size:=by have:=H.base;omega
 have hd:decide ((E.input.length:Int)≤h.used)=false:=by simp;omega
 have e1:E.input.length≤icap:=i1;clear H hvi iel hx hb
 go_enter Tryz.func169,Tryz.ntmps169
 go_wp2
 go_quiet (fail)
 go_wp2
 have hi:(h.used:Int) < E.input.length:=by omega
 generalize hWW:(World.setCell _ _ _)=WW
 replace hWW:=Lib.hid hWW;have k6:WW.cell? ⟨E.hb,6,none⟩=some (.int .i64 (h.used+1)):=by rw [← hWW.out];go_simp
 have k9:WW.cell? ⟨E.hb,9,none⟩=some (.slice (some ⟨b,o,none⟩) E.input.length icap):=by rw [← hWW.out];go_simp
 have ke:WW.cell? ⟨b,o+h.used,none⟩=some (.int .i64 x):=by rw [← hWW.out];go_simp
 have r0:WW.cell? ⟨w.heap.size,0,none⟩=some (.int .i64 0):=by rw [← hWW.out];go_simp
 have r1:WW.cell? ⟨w.heap.size,1,none⟩=some (.int .i64 0):=by rw [← hWW.out];go_simp
 have f0:WW.frozen? ⟨w.heap.size,0,none⟩=false:=by rw [← hWW.out];go_simp
 have f1:WW.frozen? ⟨w.heap.size,1,none⟩=false:=by rw [← hWW.out];go_simp
 have ee:PH E WW L (used1 h) d:=by rw [← hWW.out];exact PH.set (HH.out.below (below_drewN (w:=w.alloc (.cells #[.int .i64 0,.int .i64 0] 46)) (by exact Rd.byB) nq)) 6 (by decide) (.int .i64 (h.used+1)) rfl rfl (by simp [cellsP,used1])
 have kk:Kp (own E L) w WW:=by rw [← hWW.out];exact (kpB (below_drewN (by exact Rd.byB) nq)).setCell (p:=⟨E.hb,6,none⟩) (.inl (.inl rfl)) _
 replace ee:=Lib.hid ee;replace kk:=Lib.hid kk;clear hWW;have hwr:IntKind.i64.wrap (h.used:Int)=h.used:=by rw [Num.wrap_i64,wrap64_id ⟨by omega,by omega⟩]
 go_still_tail 13,(by kernel_rfl)
 go_wp2
 refine bodyPost_ret (v:=.agg #[.int .i64 2,.int .i64 x]) (by simp [results,Tryz.results169,go_sem] <;> go_simp) rfl ?_
 have Q:=(PH.res ee.out (b:=w.heap.size) (fresh_b HH.out (Nat.le_refl _)).1 (fresh_b HH.out (Nat.le_refl _)).2 0 (.int .i64 2)).res (b:=w.heap.size) (fresh_b HH.out (Nat.le_refl _)).1 (fresh_b HH.out (Nat.le_refl _)).2 1 (.int .i64 x);have Q2:=(kk.out.setCell (p:=⟨w.heap.size,0,none⟩) (.inr (Nat.le_refl _)) (.int .i64 2)).setCell (p:=⟨w.heap.size,1,none⟩) (.inr (Nat.le_refl _)) (.int .i64 x);exact ⟨by rw [hxx.out];rfl,Q.below (by exact Rd.byB),kb Q2 (by exact Rd.byB)⟩
theorem lose_at (l:List Vl) (k:Nat):(lose l k).getD k Vl.nil=Vl.nil:=by
 unfold lose
 split
 ·rw [List.getD_eq_getElem?_getD,List.getElem?_set];simp;split <;> rfl
 ·split
  ·rw [List.getD_eq_getElem?_getD,List.getElem?_set];simp;split <;> rfl
  ·rw [List.getD_eq_getElem?_getD,List.getElem?_set];simp;split <;> rfl
theorem vcells_kind (l:List Vl) (i:Nat) (k:Int) (h:l.getD i Vl.nil=Vl.nil):vcells (l.set i ⟨k,0⟩)=(vcells l).set (i*2) (.int .i64 k):=by
 rw [vcells_set]
 by_cases hi:i < l.length
 ·have h1:=(vcells_get l i hi).2;rw [h] at h1
  apply List.ext_getElem?
  intro j
  rw [List.getElem?_set]
  split
  ·rename_i e
   subst e;rw [if_pos (by rw [List.length_set];have:=vcells_len l;omega),List.getElem?_set,if_neg (by omega),h1];rfl
  ·rfl
 ·have:=vcells_len l
  have e:∀ (L:List Value) (j:Nat) (v:Value),L.length≤j→L.set j v=L:=fun L j v h=>List.set_eq_of_length_le h;rw [e _ (i*2+1) _ (by rw [List.length_set];omega)]
theorem slotsP (v:Vl) (w:World):Calls Tryz.prog 53 #[.agg #[.int .i64 v.kind,.int .i64 v.n]] w fun e w'=>e=.returned (.int .i64 (width v:Nat))∧Below w.heap.size w w':=by
 by_cases q:v.kind=2
 ·have qb:(v.kind==2)=true:=by simpa using q
  have e1:Hid (width v=2):=by show _=_;unfold width;rw [if_pos q]
  clear q
  go_enter Tryz.func53,Tryz.ntmps53
  go_wp2
  go_ret;exact ⟨ret_int (by rw [e1.out];rfl),Rd.byB⟩
 ·have qb:(v.kind==2)=false:=by simpa using q
  have e1:Hid (width v=1):=by show _=_;unfold width;rw [if_neg q]
  clear q
  go_enter Tryz.func53,Tryz.ntmps53
  go_wp2
  go_ret;exact ⟨ret_int (by rw [e1.out];rfl),Rd.byB⟩
theorem loseP {w:World}{lb:Nat}{l:List Vl}(n:Nat) (hn:n=l.length) (H:Blk w lb (vcells l)) (hP:Paired l) (k:Nat) (hk:k < l.length) (h1000:l.length≤1000) :
  Calls Tryz.prog 103 #[.slice (some ⟨lb,0,none⟩) n n,.int .i64 k] w fun e w'=>e=.returned (.tuple #[])∧Blk w' lb (vcells (lose l k))∧Kp (· = lb) w w':=by
 subst hn;obtain ⟨c0,c1,f0,f1⟩:=Blk.getV H hk;have HH:=Lib.hid H;obtain ⟨x,hx⟩:∃ x,Hid (l.getD k Vl.nil=x):=⟨_,rfl⟩;rw [hx.out] at c0 c1
 by_cases q9:x.kind=9
 ·have h0:=(hP.2 k (by unfold kd;rw [hx.out];exact q9)).1
  obtain ⟨j,rfl⟩:∃ j,k=j+1:=⟨k - 1,by omega⟩
  obtain ⟨d0,d1,g0,g1⟩:=Blk.getV H (i:=j) (by omega)
  have hR:Hid (lose l (j+1)=(l.set j Vl.nil).set (j+1) Vl.nil):=by show _=_;unfold lose;rw [hx.out,if_pos q9];rfl
  have qb:(x.kind==9)=true:=by simpa using q9
  clear H q9
  go_enter Tryz.func103,Tryz.ntmps103
  go_wp2
  go_end0
  refine ⟨rfl,?_,kp_setV (kp_setV (Kp.refl (fun x=>x=lb) w) (.inl rfl) _ _ _ _) (.inl rfl) _ _ _ _⟩;rw [hR.out];exact Blk.setV (Blk.setV HH.out (i:=j) (by omega) Vl.nil) (i:=j+1) (by simpa using hk) Vl.nil
 ·have qb:(x.kind==9)=false:=by simpa using q9
  by_cases q2:x.kind=2
  ·have h0:=pair_lt hP (by unfold kd;rw [hx.out];exact q2)
   obtain ⟨d0,d1,g0,g1⟩:=Blk.getV H (i:=k+1) h0;have hR:Hid (lose l k=(l.set (k+1) Vl.nil).set k Vl.nil):=by show _=_;unfold lose;rw [hx.out,if_neg q9,if_pos q2]
   have qb2:(x.kind==2)=true:=by simpa using q2
   clear H q9 q2
   go_enter Tryz.func103,Tryz.ntmps103
   go_wp2
   go_end0
   refine ⟨rfl,?_,kp_setV (kp_setV (Kp.refl (fun x=>x=lb) w) (.inl rfl) _ _ _ _) (.inl rfl) _ _ _ _⟩;rw [hR.out];exact Blk.setV (Blk.setV HH.out (i:=k+1) h0 Vl.nil) (i:=k) (by simpa using hk) Vl.nil
  ·have hR:Hid (lose l k=l.set k Vl.nil):=by show _=_;unfold lose;rw [hx.out,if_neg q9,if_neg q2]
   have qb2:(x.kind==2)=false:=by simpa using q2
   clear H q9 q2
   go_enter Tryz.func103,Tryz.ntmps103
   go_wp2
   go_end0
   refine ⟨rfl,?_,kp_setV (Kp.refl (fun x=>x=lb) w) (.inl rfl) _ _ _ _⟩;rw [hR.out];exact Blk.setV HH.out hk Vl.nil
theorem storeP {w:World}{lb:Nat}{l:List Vl}(H:Blk w lb (vcells l)) (hlb:lb < w.heap.size) (hP:Paired l) (k:Nat) (v:Vl) (hk:k+width v≤l.length) (h1000:l.length≤1000) :
  Calls Tryz.prog 52 #[.slice (some ⟨lb,0,none⟩) l.length l.length,.int .i64 k,.agg #[.int .i64 v.kind,.int .i64 v.n]] w fun e w'=>e=.returned (.tuple #[])∧Blk w' lb (vcells (Run.store l k v))∧Kp (· = lb) w w':=by
 have HH:=Lib.hid H;obtain ⟨kd,n⟩:=v;have hl1:=lose_len l k
 by_cases q:kd=2
 ·subst q;have hk2:k+2≤l.length:=by simpa [width] using hk
  have hl2:=lose_len (lose l k) (k+1);have hR:Hid (Run.store l k ⟨2,n⟩=((lose (lose l k) (k+1)).set (k+1) ⟨9,0⟩).set k ⟨2,n⟩):=by show _=_;unfold Run.store;rw [if_pos rfl]
  have hP1:=Lib.hid (lose_paired hP k);have hPh:=Lib.hid hP;have e1:=Lib.hid hl1;have e2:=Lib.hid hl2;clear H hl1 hl2 hP hk
  go_enter Tryz.func52,Tryz.ntmps52
  go_wp2_with (first | (go_at_call 103;(with_reducible refine (loseP (l:=l) _ rfl (HH.out.next (Kp.of_below (X:=fun _=>False) (by exact Rd.byB) (Nat.le_refl _)) (fun e=>e)) hPh.out k (by omega) h1000).mono ?_);rintro e w1 ⟨rfl,H1,K1⟩;have y0:=K1.cell (c:=w.heap.size) (o:=0) (v:=.int .i64 2) (by go_simp) (by omega);have y1:=K1.cell (c:=w.heap.size) (o:=1) (v:=.int .i64 n) (by go_simp) (by omega);have sz:=K1.size;replace H1:=Lib.hid H1;replace K1:=Lib.hid K1) | (go_at_call 103;refine (loseP (l:=lose l k) _ e1.out.symm H1.out hP1.out (k+1) (by rw [e1.out];omega) (by rw [e1.out];omega)).mono ?_;rintro e w2 ⟨rfl,H2,K2⟩;replace y0:=K2.cell (c:=w.heap.size) (o:=0) y0 (by omega);replace y1:=K2.cell (c:=w.heap.size) (o:=1) y1 (by omega);obtain ⟨d0,d1,d2,d3⟩:=Blk.getV H2 (i:=k+1) (by rw [e2.out,e1.out];omega);obtain ⟨d4,d5,d6,d7⟩:=Blk.getV H2 (i:=k) (by rw [e2.out,e1.out];omega);replace H2:=Lib.hid H2;replace K2:=Lib.hid K2))
  go_end0
  refine ⟨rfl,?_,?_⟩
  ·rw [hR.out];have B9:=Blk.set H2.out ((k+1)*2) (by rw [vcells_len,e2.out,e1.out];omega) (.int .i64 9)
   rw [← vcells_kind _ (k+1) 9 (lose_at _ _)] at B9;exact Blk.setV B9 (i:=k) (by rw [List.length_set,e2.out,e1.out];omega) ⟨2,n⟩
  ·exact kp_setV ((((Kp.of_below (B:=w.heap.size) (X:=fun x=>x=lb) (by exact Rd.byB) (Nat.le_refl _)).trans K1.out (fun _ h=>.inl h)).trans K2.out (fun _ h=>.inl h)).setCell (p:=⟨lb,(k+1)*2,none⟩) (.inl rfl) _) (.inl rfl) _ _ _ _
 ·have qb:(kd==2)=false:=by simpa using q
  have hk1:k+1≤l.length:=by simpa [width,q] using hk
  have hR:Hid (Run.store l k ⟨kd,n⟩=(lose l k).set k ⟨kd,n⟩):=by show _=_;unfold Run.store;rw [if_neg q]
  have hPh:=Lib.hid hP;have e1:=Lib.hid hl1;clear H hl1 hP hk q
  go_enter Tryz.func52,Tryz.ntmps52
  go_wp2_with ((go_at_call 103;(with_reducible refine (loseP (l:=l) _ rfl (HH.out.next (Kp.of_below (X:=fun _=>False) (by exact Rd.byB) (Nat.le_refl _)) (fun e=>e)) hPh.out k (by omega) h1000).mono ?_);rintro e w1 ⟨rfl,H1,K1⟩;have y0:=K1.cell (c:=w.heap.size) (o:=0) (v:=.int .i64 kd) (by go_simp) (by omega);have y1:=K1.cell (c:=w.heap.size) (o:=1) (v:=.int .i64 n) (by go_simp) (by omega);obtain ⟨d4,d5,d6,d7⟩:=Blk.getV H1 (i:=k) (by rw [e1.out];omega);replace H1:=Lib.hid H1;replace K1:=Lib.hid K1))
  go_end0
  refine ⟨rfl,?_,kp_setV ((Kp.of_below (B:=w.heap.size) (X:=fun x=>x=lb) (by exact Rd.byB) (Nat.le_refl _)).trans K1.out (fun _ h=>.inl h)) (.inl rfl) _ _ _ _⟩
  rw [hR.out];exact Blk.setV H1.out (i:=k) (by rw [e1.out];omega) ⟨kd,n⟩
theorem loadOk {w:World}{lb:Nat}{l:List Vl}(H:Blk w lb (vcells l)) (k:Nat) (x:Vl) (hx:l.getD k Vl.nil=x) (hk:k < l.length) (h1000:l.length≤1000) (kd:Int) (hkd:x.kind=kd) :
  Calls Tryz.prog 157 #[.slice (some ⟨lb,0,none⟩) l.length l.length,.int .i64 k,.int .i64 kd] w fun e w'=>e=.returned (.agg #[.int .i64 x.kind,.int .i64 x.n])∧Below w.heap.size w w':=by
 obtain ⟨c0,c1,f0,f1⟩:=Blk.getV H hk;rw [hx] at c0 c1;have hlw:=cell_lt c0;subst hkd;clear H hx
 go_enter Tryz.func157,Tryz.ntmps157
 go_wp2_with (go_at_call 97;refine (mustT _).mono ?_;rintro e w1 ⟨rfl,rfl⟩)
 refine bodyPost_ret (v:=.agg #[.int .i64 x.kind,.int .i64 x.n]) (by simp [results,Tryz.results157,go_sem] <;> go_simp) rfl ?_
 exact ⟨rfl,Rd.byB⟩
theorem loadStuck {w:World}{lb:Nat}{l:List Vl}(H:Blk w lb (vcells l)) (k:Nat) (x:Vl) (hx:l.getD k Vl.nil=x) (hk:k < l.length) (h1000:l.length≤1000) (kd:Int) (hkd:x.kind≠kd) :
  Calls Tryz.prog 157 #[.slice (some ⟨lb,0,none⟩) l.length l.length,.int .i64 k,.int .i64 kd] w fun e w'=>e=pan (stopV 6)∧Below w.heap.size w w':=by
 obtain ⟨c0,c1,f0,f1⟩:=Blk.getV H hk;rw [hx] at c0 c1;have hlw:=cell_lt c0;have qb:(x.kind==kd)=false:=by simpa using hkd
 clear H hx hkd
 go_enter Tryz.func157,Tryz.ntmps157
 go_wp2_with (go_at_call 97;refine (mustF _).mono ?_;rintro e w1 ⟨rfl,rfl⟩)
 refine And.intro rfl ?_;exact ⟨rfl,Rd.byB⟩
end
end Hpw
namespace UpW
open Num Rd D HierW
section
variable {F:Fence}{n:Nat}{P:Program}
def GivesG {α:Type}(F:Fence) (n:Nat) (P:Program) (g:Nat) (lb:Array Value) (encs:α→Array Value) (Kp:World→World→Prop) (S Sp:List α→Prop) (box:Addr) (w:World):Prop :=
 ∀ (l:Nat) (J Jx:List α→World→Prop) (W:World),Kp w W→Lets box J→Lets box Jx →
  (∀ pre x W1,J pre W1→Sp (pre++[x])→YieldAt F (n - 1) P l (encs x) W1 fun e W' =>
   (e=.returned (.bool true)∧J (pre++[x]) W'∧Kp W1 W')∨(e=.returned (.bool false)∧Jx (pre++[x]) W')) →
  J [] W →
  CallsIn F n P g (#[.func (.yield l) #[] #[]]++lb) W fun e W'=>(∃ v,e=.returned v)∧((∃ xs,S xs∧J xs W')∨(∃ pre,Sp pre∧Jx pre W'))
theorem rangeG {α:Type}{g:Operand}{ps:Array Tmp}{assign body:Code}{Q:Exit→Act→World→Prop}{a:Act}{w:World}
  (hro:F.round=none) (h1:1≤n){gf:Nat}{lb:Array Value}(hg:a.eval g=.func (.func gf) #[] lb) (hFg:F.fn gf) (eg:∀ args w,(callFunc gf args).run P w=.ok (.enter gf args) w)
  {encs:α→Array Value}{Kp:World→World→Prop}{S Sp:List α→Prop}{box:Addr}(hgv:GivesG F (n - 1) P gf lb encs Kp S Sp box w)
  (hKt:∀ {A B C:World},Kp A B→Kp B C→Kp A C) (hKr:Kp w w) (hKa:∀ (W:World) (o:Obj),Kp w W→Kp w (W.alloc o))
  (hKb:∀ (W:World) (l:Nat) (o o':Obj),w.heap.size≤l→W.heap[l]? = some o→o.isCells=false→o.isWalk=false→Kp W (W.putObj l o')) (hps:∀ x,(encs x).size=ps.size)
  (I:List α→World→Prop) (Ix:Code→List α→World→Prop) (hI:OwnFrom w.heap.size I) (hIx:∀ c,OwnFrom w.heap.size (Ix c)) (hIb:Lets box I) (hIxb:∀ c,Lets box (Ix c)) (h0:I [] w) (a₁:α→Act)
  (hassign:∀ (l:Nat) (x:α) (W:World) (K:Act→World→Prop),K (a₁ x) W →
   assign.wpIn (F.inRound l) (n - 1 - 1) P (Exit.then K (fun _ _ _=>False)) { tmps:=(ps.zip (encs x)).foldl (fun t (p,v)=>t.setIfInBounds p v) a.tmps,defers:=[] } W)
  (hbody:∀ (l:Nat) (pre:List α) (x:α) (W:World),I pre W→Sp (pre++[x])→body.wpIn (F.inRound l) (n - 1 - 1) P (ownPostG w.heap.size Kp I Ix (pre++[x]) W) (a₁ x) W)
  (hdone:∀ (D:Nat) (xs:List α) (W:World),w.heap.size≤D→S xs→I xs W→W.heap[D]? = some (.deferred (some []))→Q .normal { a with defers:={ target:=.collected D,args:=#[] } :: a.defers } W)
  (hstop:∀ (D:Nat) (c:Code) (pre:List α) (W:World),w.heap.size≤D→Sp pre→Ix c pre W→W.heap[D]? = some (.deferred (some []))→c.wpIn F n P Q { a with defers:={ target:=.collected D,args:=#[] } :: a.defers } W) :
  (Code.rangeFunc g ps assign body).wpIn F n P Q a w:=by
 refine wpIn_rangeFunc ?_
 intro fn hfn
 rw [hro];obtain ⟨rec,hrec⟩:∃ rec:LoopState→Option Code→Loop,rec=fun st pe=>{ state:=st,pending:=pe,fn,tmps:=a.tmps,params:=ps,assign,body,defers:=w.heap.size }:=⟨_,rfl⟩;obtain ⟨W1,hW1⟩:∃ W1,(w.alloc (.deferred (some []))).alloc (.loop (rec .ready none))=W1:=⟨_,rfl⟩
 have hL1:W1.heap[w.heap.size+1]? = some (.loop (rec .ready none)):=by
  rw [← hW1];have:=World.alloc_heap_new (w.alloc (.deferred (some []))) (.loop (rec .ready none));rwa [World.size_alloc] at this
 have hK1:W1.heap[w.heap.size]? = some (.deferred (some [])):=by
  rw [← hW1];exact (Below.heap_alloc _ _ _ (by simp)).trans (World.alloc_heap_new w _)
 have hI1:I [] W1:=by rw [← hW1];exact hI.alloc _ (hI.alloc _ h0)
 have hb1:Kp w W1:=by rw [← hW1];exact hKa _ _ (hKa _ _ hKr)
 refine ⟨w.heap.size+1,[{ target:=.collected w.heap.size,args:=#[] }],W1,{ target:=.fn (.func gf) lb,args:=#[.func (.yield (w.heap.size+1)) #[] #[]] },W1,gf,
  #[.func (.yield (w.heap.size+1)) #[] #[]]++lb,W1,?_,?_,?_,?_,fun _=>h1,?_⟩
 ·rw [← hW1,hrec];exact run_enterLoop_outer _ _ _ _ _
 ·simp only [resolve,hg];simp [go_sem]
 ·intro f' hf';simp [Target.leads] at hf';subst hf';exact hFg
 ·simp [invoke,go_sem,eg]
 ·refine (hgv (w.heap.size+1)
   (fun pre W=>I pre W∧W.heap[w.heap.size+1]? = some (.loop (rec .ready none))∧W.heap[w.heap.size]? = some (.deferred (some [])))
   (fun pre W=>∃ c,Ix c pre W∧W.heap[w.heap.size+1]? = some (.loop (rec .done (some c)))∧W.heap[w.heap.size]? = some (.deferred (some [])))
   W1 hb1
   (fun s W v hs=>⟨hIb s W v hs.1,setCell_obj hs.2.1 rfl,setCell_obj hs.2.2 rfl⟩)
   (fun s W v hs=>by
    obtain ⟨c,hc,hl,hk⟩:=hs
    exact ⟨c,hIxb c s W v hc,setCell_obj hl rfl,setCell_obj hk rfl⟩)
   ?_ ⟨hI1,hL1,hK1⟩).mono ?_
  ·rintro pre x W ⟨hi,hl,hk⟩ ho;have hlt:w.heap.size+1 < W.heap.size:=(Array.getElem?_eq_some_iff.1 hl).1;have hy:=run_yield (P:=P) (args:=encs x) hl (by rw [hrec];exact hps x)
   rw [hrec] at hy;refine ⟨fn,_,assign,body,hy,roundIn_of_wpIn hfn (hassign _ x W _ ⟨_,run_beginRound hl (by rw [hrec]),?_⟩)⟩
   have hl2:(W.putObj (w.heap.size+1) (.loop { rec .ready none with state:=.busy })).heap[w.heap.size+1]? = some (.loop { rec .ready none with state:=.busy }):=World.putObj_heap_same hlt
   have hk2:(W.putObj (w.heap.size+1) (.loop { rec .ready none with state:=.busy })).heap[w.heap.size]? = some (.deferred (some [])):=(World.putObj_heap_other (by omega)).trans hk
   have hw2:Kp W (W.putObj (w.heap.size+1) (.loop { rec .ready none with state:=.busy })):=hKb _ _ _ _ (by omega) hl rfl rfl
   refine wpIn_mono (hbody _ pre x _ (hI.putObj _ hi (by omega) hl rfl) ho) ?_
   have fin:∀ (jump:Option Code) (W3:World),KeepsFrom w.heap.size (W.putObj (w.heap.size+1) (.loop { rec .ready none with state:=.busy })) W3 →
     (Instr.endRound (w.heap.size+1) jump).run P W3=.ok (.bool jump.isNone) (W3.putObj (w.heap.size+1) (.loop (rec (if jump.isNone then .ready else .done) jump))) ∧
     W3.heap[w.heap.size+1]? = some (.loop { rec .ready none with state:=.busy }) ∧
     (W3.putObj (w.heap.size+1) (.loop (rec (if jump.isNone then .ready else .done) jump))).heap[w.heap.size+1]? = some (.loop (rec (if jump.isNone then .ready else .done) jump)) ∧
     (W3.putObj (w.heap.size+1) (.loop (rec (if jump.isNone then .ready else .done) jump))).heap[w.heap.size]? = some (.deferred (some [])):=fun jump W3 hk3=>by
    have hl3:=hk3.same _ _ (by omega) hl2 rfl
    have:=run_endRound (P:=P) jump hl3
    rw [hrec] at this ⊢;exact ⟨this,by rw [hrec] at hl3;exact hl3,World.putObj_heap_same (Array.getElem?_eq_some_iff.1 hl3).1,(World.putObj_heap_other (by omega)).trans (hk3.same _ _ (Nat.le_refl _) hk2 rfl)⟩
   rintro e a3 W3 hp
   cases e with
   | normal =>
    obtain ⟨hk3,hkp3,hi3⟩:=hp;obtain ⟨hr,hl3,hl4,hk4⟩:=fin none W3 hk3;exact ⟨_,_,hr,.inl ⟨rfl,⟨hI.putObj _ hi3 (by omega) hl3 rfl,hl4,hk4⟩,hKt (hKt hw2 hkp3) (hKb _ _ _ _ (by omega) hl3 rfl rfl)⟩⟩
   | ret =>
    obtain ⟨hk3,hi3⟩:=hp;obtain ⟨hr,hl3,hl4,hk4⟩:=fin (some .ret) W3 hk3;exact ⟨_,_,hr,.inr ⟨rfl,.ret,(hIx _).putObj _ hi3 (by omega) hl3 rfl,hl4,hk4⟩⟩
   | exit id =>
    obtain ⟨hk3,hi3⟩:=hp;obtain ⟨hr,hl3,hl4,hk4⟩:=fin (some (.exit id)) W3 hk3;exact ⟨_,_,hr,.inr ⟨rfl,.exit id,(hIx _).putObj _ hi3 (by omega) hl3 rfl,hl4,hk4⟩⟩
   | goto t =>
    obtain ⟨hk3,hi3⟩:=hp;obtain ⟨hr,hl3,hl4,hk4⟩:=fin (some (.goto t)) W3 hk3;exact ⟨_,_,hr,.inr ⟨rfl,.goto t,(hIx _).putObj _ hi3 (by omega) hl3 rfl,hl4,hk4⟩⟩
   | panic ch=>exact hp.elim
   | outgrown=>exact hp.elim
  ·rintro e W2 ⟨⟨v,rfl⟩,(⟨xs,hS,hi,hl,hk⟩ | ⟨pre,hSp,c,hi,hl,hk⟩)⟩
   ·exact ⟨none,_,by have:=run_endLoop (P:=P) hl (by rw [hrec];simp);rw [hrec] at this;exact this,hdone _ xs _ (Nat.le_refl _) hS (hI.putObj _ hi (by omega) hl rfl) ((World.putObj_heap_other (by omega)).trans hk)⟩
   ·exact ⟨some c,_,by have:=run_endLoop (P:=P) hl (by rw [hrec];simp);rw [hrec] at this;exact this,hstop _ c pre _ (Nat.le_refl _) hSp ((hIx c).putObj _ hi (by omega) hl rfl) ((World.putObj_heap_other (by omega)).trans hk)⟩
end
set_option maxRecDepth 100000 in
theorem up1G (F:Fence) (n:Nat) (hF:F.fn 205) (hro:F.round=none) (hn:1≤n) (L B Bc Bl:Nat) (Kp:World→World→Prop) (hKB:∀ {A A':World},Kp A A'→Below B A A') (hKc:∀ {A A':World},Kp A A'→A'.heap[Bc]? = A.heap[Bc]?) (hKl:∀ {A A':World},Kp A A'→A'.heap[Bl]? = A.heap[Bl]?) (v:Value) (l:List Cls) (c0:Int) (J Jx:List Int→World→Prop)
  (hJ:Lets ⟨Bc,0,none⟩ J)
  (hY:∀ pre x W,J pre W→pre++[x] <+: Hier.up l c0→YieldAt F (n - 1) Tryz.prog L #[.int .i64 x] W fun e W' =>
   (e=.returned (.bool true)∧J (pre++[x]) W'∧Kp W W')∨(e=.returned (.bool false)∧Jx (pre++[x]) W'))
  (W:World) (h1:W.cell? ⟨Bc,0,none⟩=some (.int .i64 c0)) (h2:W.frozen? ⟨Bc,0,none⟩=false) (h3:W.cell? ⟨Bl,0,none⟩=some v) (hl:Sl 2 ECls W B v l) (hw:Hier.Wf l)
  (hB1:B≤Bc) (hB2:B≤Bl) (hne:Bl≠Bc) (h0:J [] W) :
  CallsIn F n Tryz.prog 205 #[.func (.yield L) #[] #[],.pointer (some ⟨Bc,0,none⟩),.pointer (some ⟨Bl,0,none⟩)] W fun e W'=>(∃ v,e=.returned v) ∧
   ((∃ ys,ys=Hier.up l c0∧J ys W')∨(∃ pre,pre <+: Hier.up l c0∧Jx pre W')):=by
 obtain ⟨a,cap,rfl,hlc,hcc,hel⟩:=hl;refine callsIn_of_wp Tryz.func205 rfl hF ?_ hro;simp only [Tryz.ntmps205,List.size_toArray,List.length_cons,List.length_nil,Nat.reduceAdd,Nat.reduceSub,Array.replicate_succ,Array.replicate_zero,List.push_toArray,List.append_toArray,List.nil_append,List.cons_append]
 gi_wp2
 gi_loopw [] (fun wr=>∃ (pre:List Int) (c:Int),Hid (Hier.up l c0=pre++Hier.up l c)∧J pre wr∧wr.cell? ⟨Bc,0,none⟩=some (.int .i64 c)∧wr.frozen? ⟨Bc,0,none⟩=false∧wr.cell? ⟨Bl,0,none⟩=some (.slice a l.length cap)∧Below B W wr)
  (fun wr=>(boxed wr Bc+1).toNat)
 case atStart=>exact ⟨[],c0,rfl,h0,h1,h2,h3,Below.refl _ _⟩
 case round =>
  obtain ⟨pre,c,hup,hj,g1,g2,g3,hbw⟩:=hrel
  by_cases hin:0≤c∧c < l.length
  ·obtain ⟨k,rfl⟩:=Int.eq_ofNat_of_zero_le hin.1;have hk:k < l.length:=by omega
   obtain ⟨b,o,rfl,hb,he⟩:=hel k hk;have hs:=hw k hk;have hup2:=Lib.hid (up_next hw hup.out hin)
   have hsup:Hid (Hier.sup l (k:Int)=(l[k]).sup):=by
    show _=_
    rw [Hier.sup,Int.toNat_natCast,Hier.at_eq hk]
   rw [Hier.at_eq hk] at hs;rw [hsup.out] at hup2;obtain ⟨x,hx⟩:=at_of hk;rw [hx.out] at he hs hup2;obtain ⟨e1,_⟩:=he;obtain ⟨fn,tmps,assign,body,hy,hR⟩:=hY pre k wr hj ⟨_,hup2.out.symm⟩;have q1:(0:Int)≤k:=by omega
   have hbw':=Lib.hid hbw;have g1':=g1;clear hel hbw
   gi_wp2
   refine hR.mono ?_;rintro e W3 (⟨rfl,hJ3,hk3⟩ | ⟨rfl,hJx3⟩)
   ·have p1:=(World.cell?_of_block (a:=⟨Bc,0,none⟩) (hKc hk3)).trans g1;have p2:W3.frozen? ⟨Bc,0,none⟩=false:=(World.frozen?_of_block (a:=⟨Bc,0,none⟩) (hKc hk3)).trans g2;have p3:=(World.cell?_of_block (a:=⟨Bl,0,none⟩) (hKl hk3)).trans g3;have hb3:Hid (Below B W W3):=hbw'.out.trans (hKB hk3);have p4:=kept hb3.out hb e1;clear g2 g3 e1 hy hk3;have g1'':=Lib.hid g1';clear g1 g1'
    gi_wp2
    go_roundw
    case rel =>
     refine ⟨pre++[(k:Int)],x.sup,hup2,hJ _ _ _ hJ3,World.cell?_setCell_same' _ _ _ (by rw [p1];rfl),(World.frozen?_setCell _ _ _ _).trans p2,?_,hb3.out.setCell (by simp;omega) _⟩
     exact (World.cell?_setCell_other _ _ _ _ (by intro e;injection e with e;exact hne e.symm)).trans p3
    case measure =>
     rw [boxed_eq g1''.out,boxed_eq (World.cell?_setCell_same' W3 ⟨Bc,0,none⟩ (.int .i64 x.sup) (by rw [p1];rfl))]
     omega
   ·gi_wp2
    go_end0
    exact ⟨⟨_,rfl⟩,.inr ⟨pre++[(k:Int)],⟨_,hup2.out.symm⟩,hJx3⟩⟩
  ·have hupe:=Lib.hid (Hier.up_out (l:=l) hin)
   by_cases hc:c < 0
   ·clear hel
    gi_wp2
    refine ⟨fun _ h=>(by cases h),?_⟩
    gi_wp2
    go_end0
    exact ⟨⟨_,rfl⟩,.inl ⟨pre,by rw [hup.out,hupe.out,List.append_nil],hj⟩⟩
   ·clear hel;have q1:(l.length:Int)≤c:=by omega
    gi_wp2
    refine ⟨fun _ h=>(by cases h),?_⟩
    gi_wp2
    go_end0
    exact ⟨⟨_,rfl⟩,.inl ⟨pre,by rw [hup.out,hupe.out,List.append_nil],hj⟩⟩
theorem up1G_gives (F:Fence) (n:Nat) (hF:F.fn 205) (hro:F.round=none) (hn:1≤n) (B Bc Bl:Nat) (Kp:World→World→Prop) (hKB:∀ {A A':World},Kp A A'→Below B A A') (hKc:∀ {A A':World},Kp A A'→A'.heap[Bc]? = A.heap[Bc]?) (hKl:∀ {A A':World},Kp A A'→A'.heap[Bl]? = A.heap[Bl]?) (v:Value) (l:List Cls) (c0:Int) (w:World)
  (h1:w.cell? ⟨Bc,0,none⟩=some (.int .i64 c0)) (h2:w.frozen? ⟨Bc,0,none⟩=false) (h3:w.cell? ⟨Bl,0,none⟩=some v) (hl:Sl 2 ECls w B v l) (hw:Hier.Wf l)
  (hB1:B≤Bc) (hB2:B≤Bl) (hne:Bl≠Bc) :
  GivesG F n Tryz.prog 205 #[.pointer (some ⟨Bc,0,none⟩),.pointer (some ⟨Bl,0,none⟩)] (fun x:Int=>#[.int .i64 x]) Kp (fun ys=>ys=Hier.up l c0) (fun pre=>pre <+: Hier.up l c0) ⟨Bc,0,none⟩ w :=
 fun L J Jx W hk hJ _ hY h0=>up1G F n hF hro hn L B Bc Bl Kp hKB hKc hKl v l c0 J Jx hJ hY W ((World.cell?_of_block (a:=⟨Bc,0,none⟩) (hKc hk)).trans h1) ((World.frozen?_of_block (a:=⟨Bc,0,none⟩) (hKc hk)).trans h2) ((World.cell?_of_block (a:=⟨Bl,0,none⟩) (hKl hk)).trans h3) (hl.mono mCls (hKB hk) (Nat.le_refl _)) hw hB1 hB2 hne h0
end UpW
namespace Hpw
open Num Rd D Run Mem HierW
set_option maxRecDepth 1000000 in
theorem key_eq (a b c d:Int) (w:World):(Op.equal 263 (.agg #[.int .i64 a,.int .i64 b]) (.agg #[.int .i64 c,.int .i64 d])).run Tryz.prog w=.ok (decide ((a,b)=(c,d))) w:=by
 unfold Op.equal;rw [show Op.maxDepth=9998+1+1 from rfl];unfold Op.equalIn;have hu:(underlying 263).run Tryz.prog w=.ok (.array 2 3) w:=by kernel_rfl
 have hs:(sizeOf 3).run Tryz.prog w=.ok 1 w:=by kernel_rfl
 have hu2:(underlying 3).run Tryz.prog w=.ok (.int .i64) w:=by kernel_rfl
 have p0:∀ a b:Int,(part 3 #[.int .i64 a,.int .i64 b] 0).run Tryz.prog w=.ok (.int .i64 a) w:=fun _ _=>by kernel_rfl
 have p1:∀ a b:Int,(part 3 #[.int .i64 a,.int .i64 b] 1).run Tryz.prog w=.ok (.int .i64 b) w:=fun _ _=>by kernel_rfl
 have q1:∀ x y:Int,(Op.equalIn 9999 3 (.int .i64 x) (.int .i64 y)).run Tryz.prog w=.ok (x==y) w:=fun _ _=>by kernel_rfl
 cases h1:a==c <;> cases h2:b==d
 all_goals
  have n1:=h1;have n2:=h2;simp at n1 n2;simp [hu,Result.andThen,hs,List.range',p0,p1,q1,h1,h2,n1,n2]
set_option maxRecDepth 1000000 in
theorem key_chk (a b:Int) (e:Bool) (w:World):(Instr.checkKey e 10000 263 (.agg #[.int .i64 a,.int .i64 b])).run Tryz.prog w=.ok () w:=by
 kernel_rfl
def ix (pm:List ((Int × Int) × Vl)) (k:Int × Int):Nat:=pm.findIdx fun x=>decide (x.1=k)
theorem find_run (k:Int × Int) (w:World):∀ (es:List MapEntry) (pm:List ((Int × Int) × Vl)) (i:Nat),es.map (fun e=>(e.key,e.val))=pm.map (fun x=>(keyV x.1,vval x.2)) →
  (Instr.findAsking 263 (keyV k) es i).run Tryz.prog w=.ok ((pm.find? fun x=>decide (x.1=k)).map fun x=>(i+ix pm k,vval x.2)) w:=by
 intro es
 induction es with
 | nil=>intro pm i h;cases pm with
  | nil=>rfl
  | cons x pm=>simp at h
 | cons e es ih =>
  intro pm i h
  cases pm with
  | nil=>simp at h
  | cons x pm =>
   simp only [List.map_cons,List.cons.injEq,Prod.mk.injEq] at h;obtain ⟨⟨h1,h2⟩,h3⟩:=h;have hq:=key_eq k.1 k.2 x.1.1 x.1.2 w;unfold Instr.findAsking;rw [h1];unfold keyV at hq ⊢;simp only [Sem.run_bind,hq,Result.andThen_ok]
   by_cases e1:x.1=k
   ·subst e1;simp [ix,h2,List.findIdx_cons]
   ·have e2:¬ k=x.1:=fun e=>e1 e.symm;simp only [e2,decide_false,e1,List.find?_cons]
    have:=ih pm (i+1) h3
    unfold keyV at this;simp [this,ix,List.findIdx_cons,e1,Nat.add_assoc,Nat.add_comm 1]
theorem findKey_run (k:Int × Int) (w:World){es:List MapEntry}{pm:List ((Int × Int) × Vl)}(h:es.map (fun e=>(e.key,e.val))=pm.map (fun x=>(keyV x.1,vval x.2))) :
  (Instr.findKey 263 (keyV k) es).run Tryz.prog w=.ok ((pm.find? fun x=>decide (x.1=k)).map fun x=>(ix pm k,vval x.2)) w:=by
 have hu:(underlying 263).run Tryz.prog w=.ok (.array 2 3) w:=by kernel_rfl
 have hf:=find_run k w es pm 0 h;unfold Instr.findKey
 cases es with
 | nil =>
  cases pm with
  | nil=>simp [hu,Instr.findNow]
  | cons x pm=>simp at h
 | cons e es =>
  simp only [Sem.run_bind,hu,Result.andThen_ok,Instr.findNow,Instr.sameNow]
  simpa using hf
theorem look_run {r c:Nat}{es:Array MapEntry}{w:World}{pm:List ((Int × Int) × Vl)}(hb:w.heap[r]? = some (.map es c)) (h:es.toList.map (fun e=>(e.key,e.val))=pm.map (fun x=>(keyV x.1,vval x.2))) (k:Int × Int) :
  (Instr.lookup 91 (.map (some r)) (keyV k) false).run Tryz.prog w=.ok (vval ((look pm k).getD Vl.nil)) w:=by
 have hu:(underlying 91).run Tryz.prog w=.ok (.map 263 46) w:=by kernel_rfl
 have hz:(zeroValue 46).run Tryz.prog w=.ok (vval Vl.nil) w:=by kernel_rfl
 have hg:(getObj r).run Tryz.prog w=.ok (.map es c) w:=by simp [getObj,Sem.run,hb]
 have hc:∀ e,(Instr.checkKey e 10000 263 (keyV k)).run Tryz.prog w=.ok () w:=fun e=>key_chk k.1 k.2 e w;have hf:=findKey_run k w h;unfold Instr.lookup look
 cases hq:pm.find? fun x=>decide (x.1=k)
 ·rw [hq] at hf;simp [hu,hg,hc,hf,hz,Result.andThen]
 ·rw [hq] at hf;simp [hu,hg,hc,hf,hz,Result.andThen]
theorem same_key (a b:Int):Instr.sameBits 10000 (.agg #[.int .i64 a,.int .i64 b]) (.agg #[.int .i64 a,.int .i64 b])=true:=by
 simp [Instr.sameBits]
theorem ix_get {pm:List ((Int × Int) × Vl)}{k:Int × Int}{x:(Int × Int) × Vl}(h:pm.find? (fun x=>decide (x.1=k))=some x):pm[ix pm k]? = some x∧x.1=k:=by
 have h1:=List.find?_some h;refine ⟨?_,by simpa using h1⟩
 unfold ix
 induction pm with
 | nil=>simp at h
 | cons y pm ih =>
  rw [List.find?_cons] at h;rw [List.findIdx_cons]
  cases hy:decide (y.1=k)
  ·rw [hy] at h
   simpa using ih h
  ·rw [hy] at h
   simpa using h
theorem look_set {pm:List ((Int × Int) × Vl)}{k:Int × Int}{x:(Int × Int) × Vl}(h:pm.find? (fun x=>decide (x.1=k))=some x) (v:Vl) (k':Int × Int):look (pm.set (ix pm k) (k,v)) k'=if k'=k then some v else look pm k':=by
 unfold look ix
 induction pm with
 | nil=>simp at h
 | cons y pm ih =>
  rw [List.find?_cons] at h;rw [List.findIdx_cons]
  by_cases hy:y.1=k
  ·simp only [hy,decide_true,cond_true,List.set_cons_zero,List.find?_cons]
   by_cases e:k'=k
   ·subst e;simp
   ·have e2:¬ k=k':=fun h=>e h.symm;simp [e,e2]
  ·rw [show decide (y.1=k)=false from by simpa using hy] at h
   simp only [hy,decide_false,cond_false,List.set_cons_succ,List.find?_cons]
   by_cases e3:y.1=k'
   ·have e4:¬ k'=k:=fun e=>hy (e3.trans e);simp [e3,e4]
   ·simpa [e3] using ih h
theorem look_push (pm:List ((Int × Int) × Vl)){k:Int × Int}(h:pm.find? (fun x=>decide (x.1=k))=none) (v:Vl) (k':Int × Int):look (pm++[(k,v)]) k'=if k'=k then some v else look pm k':=by
 unfold look;rw [List.find?_append]
 by_cases e:k'=k
 ·subst e;simp [h]
 ·have e2:¬ k=k':=fun h=>e h.symm;simp [e,e2]
theorem upd_run (r c:Nat){es:Array MapEntry}{pm:List ((Int × Int) × Vl)}(h:es.toList.map (fun e=>(e.key,e.val))=pm.map (fun x=>(keyV x.1,vval x.2))) (k:Int × Int) (v:Vl) :
  ∃ es' c' pm',(∀ w:World,w.heap[r]? = some (.map es c)→(Instr.mapUpdate 91 (.map (some r)) (keyV k) (vval v)).run Tryz.prog w=.ok () { w with heap:=w.heap.setIfInBounds r (.map es' c') }) ∧
   es'.toList.map (fun e=>(e.key,e.val))=pm'.map (fun x=>(keyV x.1,vval x.2))∧∀ k',look pm' k'=if k'=k then some v else look pm k':=by
 cases hq:pm.find? fun x=>decide (x.1=k) with
 | none =>
  refine ⟨es.push { key:=keyV k,val:=vval v,born:=c },c+1,pm++[(k,v)],?_,?_,look_push pm hq v⟩
  ·intro w hb
   have hu:(underlying 91).run Tryz.prog w=.ok (.map 263 46) w:=by kernel_rfl
   have hg:(getObj r).run Tryz.prog w=.ok (.map es c) w:=by simp [getObj,Sem.run,hb]
   have hs:∀ o,(setObj r o).run Tryz.prog w=.ok () { w with heap:=w.heap.setIfInBounds r o }:=fun o=>by simp [setObj,Sem.run,hb]
   have hc:∀ e,(Instr.checkKey e 10000 263 (keyV k)).run Tryz.prog w=.ok () w:=fun e=>key_chk k.1 k.2 e w;have hf:=findKey_run k w h;rw [hq] at hf;unfold Instr.mapUpdate;simp [hu,hg,hc,hf,hs,Result.andThen]
  ·simp [h]
 | some x =>
  obtain ⟨hx,hk⟩:=ix_get hq;have hlen:es.toList.length=pm.length:=by have:=congrArg List.length h;simpa using this
  have hi:ix pm k < pm.length:=(List.getElem?_eq_some_iff.1 hx).1;have hie:ix pm k < es.size:=Nat.lt_of_lt_of_eq hi (by rw [← hlen];simp)
  have hkey:es[ix pm k].key=keyV k:=by
   have:=congrArg (fun l=>l[ix pm k]?) h
   simp only [List.getElem?_map,hx] at this;rw [Array.getElem?_toList,Array.getElem?_eq_getElem hie] at this;simp at this;rw [this.1,hk]
  refine ⟨es.modify (ix pm k) fun e=>{ e with key:=keyV k,val:=vval v },c,pm.set (ix pm k) (k,v),?_,?_,look_set hq v⟩
  ·intro w hb
   have hu:(underlying 91).run Tryz.prog w=.ok (.map 263 46) w:=by kernel_rfl
   have hg:(getObj r).run Tryz.prog w=.ok (.map es c) w:=by simp [getObj,Sem.run,hb]
   have hs:∀ o,(setObj r o).run Tryz.prog w=.ok () { w with heap:=w.heap.setIfInBounds r o }:=fun o=>by simp [setObj,Sem.run,hb]
   have hc:∀ e,(Instr.checkKey e 10000 263 (keyV k)).run Tryz.prog w=.ok () w:=fun e=>key_chk k.1 k.2 e w;have hf:=findKey_run k w h;rw [hq] at hf;unfold Instr.mapUpdate
   have hst:(Instr.keyThatStays (((es[ix pm k]?).map (·.key)).getD (keyV k)) (keyV k)).run Tryz.prog w=.ok (keyV k) w:=by
    rw [Array.getElem?_eq_getElem hie];simp only [Option.map_some,Option.getD_some,hkey];unfold Instr.keyThatStays keyV;rw [same_key];rfl
   rw [Array.getElem?_eq_getElem hie] at hst;simp only [Option.map_some,Option.getD_some] at hst;simp [hu,hg,hc,hf,hs,Result.andThen,Array.getElem?_eq_getElem hie,hst]
  ·rw [Array.toList_modify]
   apply List.ext_getElem?
   intro j
   have hj:=congrArg (fun l=>l[j]?) h;simp only [List.getElem?_map] at hj;simp only [List.getElem?_map,List.getElem?_modify,List.getElem?_set]
   by_cases e:ix pm k=j
   ·subst e;simp [hie,hi]
   ·rw [if_neg e]
    simpa [e] using hj
end Hpw
namespace Run
open D
def look (l:List ((Int × Int) × Vl)) (k:Int × Int):Option Vl:=(l.find? fun x=>decide (x.1=k)).map (·.2)
def ups (l:List Cls) (pre:List Int) (k:Int × Int):Option Vl :=
 if k.1∈pre∧0≤k.2∧k.2 < (Hier.at' l k.1.toNat).fields.length then some (Run.zero ((Hier.at' l k.1.toNat).fields.getD k.2.toNat ⟨0,0⟩)) else none
theorem look_app (a b:List ((Int × Int) × Vl)) (k:Int × Int):look (a++b) k=(look a k).or (look b k):=by
 unfold look;rw [List.find?_append]
 cases a.find? fun x=>decide (x.1=k) <;> simp
theorem look_none {a:List ((Int × Int) × Vl)}{k:Int × Int}(h:∀ x∈a,x.1≠k):look a k=none:=by
 unfold look;rw [List.find?_eq_none.2 (fun x hx=>by simpa using h x hx)];rfl
theorem look_flat (F:Nat→List ((Int × Int) × Vl)) (hF:∀ c,∀ x∈F c,x.1.1=(c:Int)) (k:Int × Int):∀ N:Nat,look ((List.range N).flatMap F) k=if 0≤k.1∧k.1 < N then look (F k.1.toNat) k else none:=by
 intro N
 induction N with
 | zero=>rw [if_neg (by omega)];rfl
 | succ N ih =>
  rw [List.range_succ,List.flatMap_append,look_app,ih]
  by_cases q:0≤k.1∧k.1 < (N:Int)
  ·rw [if_pos q,if_pos (by omega)]
   have:look ([N].flatMap F) k=none:=look_none (fun x hx e=>by
    have h1:=hF N x (by simpa using hx)
    rw [e] at h1;omega)
   rw [this,Option.or_none]
  ·rw [if_neg q,Option.none_or]
   by_cases q2:k.1=N
   ·rw [if_pos (by omega),q2];simp
   ·rw [if_neg (by omega)]
    exact look_none (fun x hx e=>by
     have h1:=hF N x (by simpa using hx)
     rw [e] at h1;omega)
theorem look_fields (c:Nat) (fs:List Ty) (k:Int × Int) (hk:k.1=c):look (fieldsOf c fs) k=if 0≤k.2∧k.2 < fs.length then some (zero (fs.getD k.2.toNat ⟨0,0⟩)) else none:=by
 unfold fieldsOf
 have key:∀ N:Nat,look ((List.range N).map fun (j:Nat)=>(((c:Int),(j:Int)),zero (fs.getD j ⟨0,0⟩))) k=if 0≤k.2∧k.2 < N then some (zero (fs.getD k.2.toNat ⟨0,0⟩)) else none:=by
  intro N
  induction N with
  | zero=>rw [if_neg (by omega)];rfl
  | succ N ih =>
   rw [List.range_succ,List.map_append,look_app,ih]
   by_cases q:0≤k.2∧k.2 < (N:Int)
   ·rw [if_pos q,if_pos (by omega)];rfl
   ·rw [if_neg q,Option.none_or]
    by_cases q2:k.2=N
    ·rw [if_pos (by omega)]
     have:((c:Int),(N:Int))=k:=by rw [← hk,← q2]
     simp [look,this,q2]
    ·rw [if_neg (by omega)]
     exact look_none (fun x hx e=>by
      have:x=(((c:Int),(N:Int)),zero (fs.getD N ⟨0,0⟩)):=by simpa using hx
      subst this
      exact q2 (by rw [← e]))
 exact key fs.length
theorem ups_fresh {l:List Cls}(hw:Hier.Wf l) (cl:Int) (k:Int × Int):ups l (Hier.up l cl) k=look (fresh l cl) k:=by
 unfold fresh
 rw [look_flat _ (fun c x hx=>by
  split at hx
  ·unfold fieldsOf at hx;obtain ⟨j,_,rfl⟩:=List.mem_map.1 hx
   rfl
  ·cases hx)]
 unfold ups
 by_cases q:0≤k.1∧k.1 < (l.length:Int)
 ·rw [if_pos q];have hkk:(k.1.toNat:Int)=k.1:=by omega
  by_cases q2:k.1∈Hier.up l cl
  ·have h1:Hier.is l cl (k.1.toNat:Int)=true:=by unfold Hier.is;rw [hkk];simpa using q2
   rw [if_pos h1,look_fields _ _ _ hkk.symm]
   by_cases q3:0≤k.2∧k.2 < ((Hier.at' l k.1.toNat).fields.length:Int)
   ·rw [if_pos ⟨q2,q3.1,q3.2⟩,if_pos q3]
   ·rw [if_neg (fun h=>q3 h.2),if_neg q3]
  ·have h1:¬ Hier.is l cl (k.1.toNat:Int)=true:=by unfold Hier.is;rw [hkk];simpa using q2
   rw [if_neg h1,if_neg (fun h=>q2 h.1)];rfl
 ·rw [if_neg q];rw [if_neg (fun h=>q ?_)];have h1:Hier.is l cl k.1=true:=by unfold Hier.is;simpa using h.1
  have h2:=Hier.is_le' hw h1;have h3:=Hier.is_lt h1;omega
end Run
end Go.Proofs.YtncmhenfgbcihabGreat
