/- Parts of the proof: Mem, Run, RunI, RunS, Vl, Rh, RhA, Idx, RhB. -/
import Derived.Test.YtncmhenfgbcihabG01
import Derived.WalkKit
import Derived.WalkLawsBesides
import Derived.WalkSpells
import Derived.Deep.AppendLies
import Derived.Lib.Hide
import Derived.Test.YtncmhenfgbcihabG02
import Derived.Deep.RegionHeld3
import Derived.Deep.QuietTactic
import Derived.BigQuiet
set_option linter.unusedSimpArgs false
set_option linter.unusedVariables false
set_option maxHeartbeats 8000000
namespace Go.Proofs.Ytncmhenfgbcihab
open Go.RowKit
namespace Mem
open Num Rd D
theorem cell_lt {w:World}{b o:Nat}{v:Value}(h:w.cell? ⟨b,o,none⟩=some v):b < w.heap.size:=World.block_lt_of_cell? w _ h
structure Kp (X:Nat→Prop) (w w':World):Prop where
 os:w'.os=w.os
 tape:w'.tape=w.tape
 output:w'.output=w.output
 size:w.heap.size≤w'.heap.size
 block:∀ k,k < w.heap.size→¬ X k→w'.heap[k]? = w.heap[k]?
namespace Kp
variable {X Y:Nat→Prop}{w w' w'':World}
theorem refl (X:Nat→Prop) (w:World):Kp X w w:=⟨rfl,rfl,rfl,Nat.le_refl _,fun _ _ _=>rfl⟩
theorem trans (h:Kp X w w') (k:Kp Y w' w'') (hY:∀ y,Y y→X y∨w.heap.size≤y):Kp X w w'' :=
 ⟨k.os.trans h.os,k.tape.trans h.tape,k.output.trans h.output,Nat.le_trans h.size k.size,fun i hi hn=>(k.block i (Nat.lt_of_lt_of_le hi h.size) (fun hy=>(hY i hy).elim hn (fun h=>by omega))).trans (h.block i hi hn)⟩
theorem of_below {B:Nat}(h:Below B w w') (hB:w.heap.size≤B):Kp X w w':=⟨h.os,h.tape,h.output,h.size,fun k hk _=>h.block k (by omega)⟩
theorem below (h:Kp X w w'){B:Nat}(h1:B≤w.heap.size) (h2:∀ x,X x→B≤x):Below B w w':=⟨h.os,h.tape,h.output,h.size,fun k hk=>h.block k (by omega) (fun hx=>by have:=h2 k hx;omega)⟩
theorem mono (h:Kp X w w') (hY:∀ x,X x→Y x):Kp Y w w':=⟨h.os,h.tape,h.output,h.size,fun k hk hn=>h.block k hk (fun hx=>hn (hY k hx))⟩
theorem alloc (h:Kp X w w') (o:Obj):Kp X w (w'.alloc o):=h.trans (Y:=fun _=>False) (of_below ((Below.refl _ _).alloc (Nat.le_refl _) o) (Nat.le_refl _)) (fun _ h=>h.elim)
theorem drew (h:Kp X w w'):Kp X w w'.drew:=⟨h.os,h.tape,h.output,h.size,h.block⟩
theorem drewN (h:Kp X w w') (n:Nat):Kp X w (w'.drewN n):=⟨h.os,h.tape,h.output,h.size,h.block⟩
theorem setCell (h:Kp X w w'){p:Addr}(hp:X p.block∨w.heap.size≤p.block) (u:Value):Kp X w (w'.setCell p u) :=
 ⟨h.os,h.tape,h.output,by simpa [World.setCell] using h.size,fun k hk hn=>(Below.heap_setCell _ _ _ _ (fun e=>by
  rcases hp with hp | hp
  ·rw [e] at hn;exact hn hp
  ·omega)).trans (h.block k hk hn)⟩
theorem cell (h:Kp X w w'){c o:Nat}{v:Value}(hc:w.cell? ⟨c,o,none⟩=some v) (h2:¬ X c):w'.cell? ⟨c,o,none⟩=some v :=
 (World.cell?_of_block (a:=⟨c,o,none⟩) (h.block c (cell_lt hc) h2)).trans hc
theorem frz (h:Kp X w w'){c o:Nat}{b:Bool}(hc:w.frozen? ⟨c,o,none⟩=b) (hl:c < w.heap.size) (h2:¬ X c):w'.frozen? ⟨c,o,none⟩=b :=
 (World.frozen?_of_block (a:=⟨c,o,none⟩) (h.block c hl h2)).trans hc
theorem of_grown {row:Option Nat}(h:w.grownBy w' row) (hr:∀ k,row=some k→X k):Kp X w w':=⟨h.os,h.tape,h.output,h.size,fun k hk hn=>h.block k hk (fun e=>hn (hr k e.symm))⟩
theorem sl (h:Kp X w w'){α:Type}{size:Nat}{E:World→Nat→Nat→Nat→α→Prop}(hE:Mono E){B:Nat}{v:Value}{l:List α}(hs:Sl size E w B v l) (hB:B≤w.heap.size) (hX:∀ x,X x→B≤x):Sl size E w' B v l:=hs.mono hE (h.below hB hX) (Nat.le_refl _)
end Kp
def Blk (w:World) (b:Nat) (vs:List Value):Prop:=∀ j (h:j < vs.length),w.cell? ⟨b,j,none⟩=some vs[j]∧w.frozen? ⟨b,j,none⟩=false
theorem Blk.next {w w':World}{b:Nat}{vs:List Value}(h:Blk w b vs){X:Nat→Prop}(hk:Kp X w w') (hX:¬ X b):Blk w' b vs:=fun j hj =>
 ⟨hk.cell (h j hj).1 hX,hk.frz (h j hj).2 (cell_lt (h j hj).1) hX⟩
theorem Blk.lt {w:World}{b:Nat}{v:Value}{vs:List Value}(h:Blk w b (v :: vs)):b < w.heap.size:=cell_lt (h 0 (by simp)).1
theorem Blk.far {w:World}{b:Nat}{vs:List Value}(h:Blk w b vs){b2 o2:Nat}(hne:b2≠b) (x:Value):Blk (w.setCell ⟨b2,o2,none⟩ x) b vs :=
 h.next (X:=fun k=>k=b2) (Kp.setCell (Kp.refl (fun k=>k=b2) w) (p:=⟨b2,o2,none⟩) (.inl rfl) x) (fun e=>hne e.symm)
theorem Blk.set {w:World}{b:Nat}{vs:List Value}(h:Blk w b vs) (k:Nat) (hk:k < vs.length) (x:Value):Blk (w.setCell ⟨b,k,none⟩ x) b (vs.set k x):=fun j hj=>by
 have hj':j < vs.length:=by simpa using hj
 obtain ⟨h1,h2⟩:=h j hj';obtain ⟨g1,g2⟩:=h k hk
 by_cases e:j=k
 ·subst e;rw [List.getElem_set_self];exact ⟨by go_simp,by rw [World.frozen?_setCell];exact h2⟩
 ·have hne:¬ ((⟨b,k,none⟩:Addr)=⟨b,j,none⟩):=by intro h;injection h with _ h;omega
  rw [List.getElem_set_ne (by omega)]
  exact ⟨by rw [World.cell?_setCell_other _ _ _ _ hne];exact h1,by rw [World.frozen?_setCell];exact h2⟩
theorem Blk.alloc {w:World}{b:Nat}{vs:List Value}(h:Blk w b vs) (o:Obj):Blk (w.alloc o) b vs:=h.next (X:=fun _=>False) ((Kp.refl _ _).alloc o) (fun e=>e)
theorem Blk.drew {w:World}{b:Nat}{vs:List Value}(h:Blk w b vs):Blk w.drew b vs:=h.next (X:=fun _=>False) (Kp.refl _ _).drew (fun e=>e)
theorem Blk.made (w:World) (cs:List Value) (t:TypeId):Blk (w.alloc (.cells cs.toArray t)) w.heap.size cs:=fun j hj =>
 ⟨by rw [World.cell?_alloc_new];simp [hj],World.frozen?_alloc_new ..⟩
theorem row_keep {w w':World}{base:Nat}{T:TypeId}{size n:Nat}{v:Value}{xs:List Value}{X:Nat→Prop}(h:w.ownsRow base T size v n xs) (hk:Kp X w w') (hX:∀ g,v.ownBlock=some g→¬ X g):w'.ownsRow base T size v n xs:=by
 refine ⟨h.1,?_⟩
 rcases h.2 with hn | ⟨g,cap,cur,rfl,hbg,hg,rest⟩
 ·exact .inl hn
 ·exact .inr ⟨g,cap,cur,rfl,hbg,by rw [hk.block g (Array.getElem?_eq_some_iff.1 hg).1 (hX g rfl)];exact hg,rest⟩
theorem row_alloc {w:World}{base:Nat}{T:TypeId}{size n:Nat}{v:Value}{xs:List Value}(h:w.ownsRow base T size v n xs) (o:Obj):(w.alloc o).ownsRow base T size v n xs:=h.alloc o
theorem row_drew {w:World}{base:Nat}{T:TypeId}{size n:Nat}{v:Value}{xs:List Value}(h:w.ownsRow base T size v n xs):w.drew.ownsRow base T size v n xs:=row_keep (X:=fun _=>False) h (Kp.refl _ _).drew (fun _ _ h=>h)
theorem row_cell {w:World}{base:Nat}{T:TypeId}{size n g cap:Nat}{xs:List Value}(h:w.ownsRow base T size (.slice (some ⟨g,0,none⟩) n cap) n xs){j:Nat}{u:Value}(hj:xs[j]? = some u):w.cell? ⟨g,j,none⟩=some u:=by
 have:=World.ownsRow.cells h (g:=g) rfl j u hj
 have hadd:(⟨g,0,none⟩:Addr).add j=⟨g,j,none⟩:=by unfold Addr.add;split <;> simp_all
 rw [hadd] at this;exact this
theorem row_free {w:World}{base:Nat}{T:TypeId}{size n g cap j:Nat}{xs:List Value}(h:w.ownsRow base T size (.slice (some ⟨g,0,none⟩) n cap) n xs):w.frozen? ⟨g,j,none⟩=false:=by
 rcases h.2 with hn | ⟨g',cap',cur,hv,_,hg,_⟩
 ·exact absurd hn.1 (by simp)
 ·simp only [Value.slice.injEq,Option.some.injEq,Addr.mk.injEq] at hv;obtain ⟨⟨rfl,_⟩,_⟩:=hv;simp [World.frozen?,hg]
theorem row_form {w:World}{base:Nat}{T:TypeId}{size n:Nat}{v:Value}{xs:List Value}(h:w.ownsRow base T size v n xs) (hn:0 < n):∃ g cap,v=.slice (some ⟨g,0,none⟩) n cap∧n≤cap∧cap≤9223372036854775807∧base≤g∧g < w.heap.size:=by
 have hl:=World.ownsRow.lt h
 rcases h.2 with ⟨_,h0⟩ | ⟨g,cap,cur,rfl,hb,_,h1,h2,_⟩
 ·omega
 ·exact ⟨g,cap,rfl,h1,h2,hb,(hl g rfl).2⟩
theorem row_any {w:World}{base:Nat}{T:TypeId}{size n:Nat}{v:Value}{xs:List Value}(h:w.ownsRow base T size v n xs):∃ a cap,v=.slice a n cap:=by
 rcases h.2 with ⟨hv,h0⟩ | ⟨g,cap,cur,rfl,_⟩
 ·subst h0;exact ⟨_,_,hv⟩
 ·exact ⟨_,_,rfl⟩
theorem row_set {w:World}{base:Nat}{T:TypeId}{size n g cap:Nat}{xs:List Value}(h:w.ownsRow base T size (.slice (some ⟨g,0,none⟩) n cap) n xs){j:Nat}(hj:j < xs.length) (u:Value):(w.setCell ⟨g,j,none⟩ u).ownsRow base T size (.slice (some ⟨g,0,none⟩) n cap) n (xs.set j u):=by
 refine ⟨by simpa using h.1,?_⟩
 rcases h.2 with hn | ⟨g',cap',cur,hv,hb,hg,h1,h2,h3,h4⟩
 ·exact absurd hn.1 (by simp)
 ·simp only [Value.slice.injEq,Option.some.injEq,Addr.mk.injEq] at hv;obtain ⟨⟨rfl,_⟩,_,rfl⟩:=hv;refine .inr ⟨g,cap,cur.setIfInBounds j u,rfl,hb,?_,h1,h2,by simpa using h3,?_⟩
  ·simp [World.setCell,Array.getElem?_modify,hg]
  ·rw [Array.toList_setIfInBounds,List.take_set,h4]
end Mem
namespace Run
open D Num
structure Vl where
 kind:Int
 n:Int
def Vl.nil:Vl:=⟨0,0⟩
structure Ob where
 cls:Int
 held:List ((Int × Int) × Vl)
structure Hp where
 objs:List Ob
 out:List Int
 used:Nat
 steps:Nat
inductive Res (α:Type) where
 | ok (a:α) (h:Hp)
 | thrown (o:Nat) (h:Hp)
 | stop (e:Int) (h:Hp)
def Res.bind {α β:Type}(r:Res α) (k:α→Hp→Res β):Res β :=
 match r with
 | .ok a h=>k a h
 | .thrown o h=>.thrown o h
 | .stop e h=>.stop e h
def ftype (l:List Cls) (c k:Int):Ty:=(Hier.at' l c.toNat).fields.getD k.toNat ⟨0,0⟩
def zero (t:Ty):Vl:=if t.kind=3 then ⟨3,-1⟩ else ⟨t.kind,0⟩
def fieldsOf (c:Nat) (l:List Ty):List ((Int × Int) × Vl):=(List.range l.length).map fun (k:Nat)=>(((c:Int),(k:Int)),zero (l.getD k ⟨0,0⟩))
def fresh (l:List Cls) (class_:Int):List ((Int × Int) × Vl):=(List.range l.length).flatMap fun (c:Nat)=>if Hier.is l class_ c then fieldsOf c (Hier.at' l c).fields else []
def obj (h:Hp) (n:Int):Ob:=h.objs.getD n.toNat ⟨0,[]⟩
def find (l:List ((Int × Int) × Vl)) (k:Int × Int):Vl:=((l.find? fun x=>decide (x.1=k)).map (·.2)).getD Vl.nil
def become (l:List ((Int × Int) × Vl)) (k:Int × Int) (v:Vl):List ((Int × Int) × Vl):=l.map fun x=>if x.1=k then (k,v) else x
def new (l:List Cls) (class_:Int) (h:Hp):Res Vl :=
 if 100≤h.objs.length then .stop 4 h else .ok ⟨3,h.objs.length⟩ { h with objs:=h.objs++[⟨class_,fresh l class_⟩] }
def raise {α:Type}(l:List Cls) (class_:Int) (h:Hp):Res α :=
 (new l class_ h).bind fun v h=>.thrown v.n.toNat h
def ofT (l:List Cls) (h:Hp) (v:Vl) (t:Ty):Bool :=
 decide (v.kind=t.kind) && (decide (t.kind≠3) || decide (v.n < 0) || Hier.is l (obj h v.n).cls t.cls)
def throw {α:Type}(l:List Cls) (v:Vl) (h:Hp):Res α :=
 if v.kind≠3 then .stop 6 h else if v.n < 0 then raise l 1 h else .thrown v.n.toNat h
def get (l:List Cls) (ref:Vl) (class_ field:Int) (h:Hp):Res Vl :=
 if ofT l h ref ⟨3,class_⟩=false then .stop 6 h else if ref.n < 0 then raise l 1 h else .ok (find (obj h ref.n).held (class_,field)) h
def put (l:List Cls) (ref:Vl) (class_ field:Int) (v:Vl) (t:Ty) (h:Hp):Res Unit :=
 if ofT l h v t=false then .stop 6 h else if ofT l h ref ⟨3,class_⟩=false then .stop 6 h else if ref.n < 0 then raise l 1 h
 else .ok () { h with objs:=h.objs.set ref.n.toNat ⟨(obj h ref.n).cls,become (obj h ref.n).held (class_,field) v⟩ }
def cast (l:List Cls) (v:Vl) (class_:Int) (h:Hp):Res Unit :=
 if v.kind≠3 then .stop 6 h else if ofT l h v ⟨3,class_⟩=false then raise l 3 h else .ok () h
def isV (l:List Cls) (v:Vl) (class_:Int) (h:Hp):Res Vl :=
 if v.kind≠3 then .stop 6 h else .ok ⟨1,if 0≤v.n∧Hier.is l (obj h v.n).cls class_=true then 1 else 0⟩ h
def numOf (kind op a b:Int):Int × Bool:=if kind=1 then Num.int op a b else Num.long op a b
def reckon (l:List Cls) (a b:Vl) (kind op:Int) (h:Hp):Res Vl :=
 if a.kind≠kind∨b.kind≠kind then .stop 6 h else if (numOf kind op a.n b.n).2=false then raise l 2 h else .ok ⟨kind,(numOf kind op a.n b.n).1⟩ h
def emit (v:Vl) (kind:Int) (h:Hp):Res Unit :=
 if v.kind≠kind then .stop 6 h else .ok () { h with out:=h.out++[v.n] }
def takeIn (input:List Int) (h:Hp):Res Vl :=
 if input.length≤h.used then .stop 3 h else .ok ⟨2,input.getD h.used 0⟩ { h with used:=h.used+1 }
def lose (l:List Vl) (at_:Nat):List Vl :=
 if (l.getD at_ Vl.nil).kind=9 then (l.set (at_ - 1) Vl.nil).set at_ Vl.nil
 else if (l.getD at_ Vl.nil).kind=2 then (l.set (at_+1) Vl.nil).set at_ Vl.nil
 else l.set at_ Vl.nil
def store (l:List Vl) (at_:Nat) (v:Vl):List Vl :=
 if v.kind=2 then ((lose (lose l at_) (at_+1)).set (at_+1) ⟨9,0⟩).set at_ v else (lose l at_).set at_ v
def width (v:Vl):Nat:=if v.kind=2 then 2 else 1
def size:List Vl→Nat
 | []=>0
 | v :: l=>width v+size l
def stores:List Vl→Nat→List Vl→List Vl
 | l,_,[]=>l
 | l,at_,v :: vs=>stores (store l at_ v) (at_+width v) vs
inductive Act (Fr:Type) where
 | go (fr:Fr) (h:Hp)
 | back (v:Vl) (h:Hp)
 | thrown (o:Nat) (h:Hp)
 | stop (e:Int) (h:Hp)
 | call (k:Nat) (args:List Vl) (fr:Fr) (h:Hp)
def Res.act {α Fr:Type}(r:Res α) (k:α→Hp→Act Fr):Act Fr :=
 match r with
 | .ok a h=>k a h
 | .thrown o h=>.thrown o h
 | .stop e h=>.stop e h
structure Mach (Fr:Type) where
 at_:Fr→Nat
 enter:Me→List Vl→Fr
 step:Fi→List Int→Me→Ins→Fr→Hp→Act Fr
 resume:Me→Me→Fr→Vl→Option Fr
 caught:Me→Fr→Nat→Nat→Option Fr
def nilMe:Me:=⟨[],⟨0,0⟩,0,0,0,[],[]⟩
def meAt (f:Fi) (k:Nat):Me:=f.methods.getD k nilMe
def handler (l:List Cls) (m:Me) (at_:Nat) (cls:Int):Option Hd:=m.handlers.find? fun x=>decide (x.lo≤at_) && decide ((at_:Int) < x.hi) && Hier.is l cls x.cls
def allOf (l:List Cls) (h:Hp):List Vl→List Ty→Bool
 | v :: vs,t :: ts=>ofT l h v t && allOf l h vs ts
 | _,[]=>true
 | [],_ :: _=>false
inductive Next (Fr:Type) where
 | go (fr:Fr)
 | thrown
 | stuck
def after {Fr:Type}(M:Mach Fr) (f:Fi) (m:Me) (fr:Fr) (o:Nat) (h:Hp):Next Fr :=
 match handler f.classes m (M.at_ fr) (obj h o).cls with
 | none=>.thrown
 | some x=>match M.caught m fr x.go.toNat o with
  | none=>.stuck
  | some fr=>.go fr
def loop {Fr:Type}(M:Mach Fr) (f:Fi) (input:List Int) (fuel:Nat):Nat→Nat→Me→Fr→Hp→Res Vl
 | 0,_,_,_,h=>.stop 0 h
 | g+1,d,m,fr,h =>
  if fuel≤h.steps then .stop 0 h
  else match m.code[M.at_ fr]? with
  | none=>.stop 6 { h with steps:=h.steps+1 }
  | some i=>match M.step f input m i fr { h with steps:=h.steps+1 } with
   | .stop e h=>.stop e h
   | .back v h=>.ok v h
   | .go fr h=>loop M f input fuel g d m fr h
   | .thrown o h=>match after M f m fr o h with
    | .go fr=>loop M f input fuel g d m fr h
    | .thrown=>.thrown o h
    | .stuck=>.stop 6 h
   | .call k args fr h =>
    if allOf f.classes h args (meAt f k).params=false then .stop 6 h
    else if 20≤d then .stop 5 h
    else match loop M f input fuel g (d+1) (meAt f k) (M.enter (meAt f k) args) h with
     | .stop e h=>.stop e h
     | .ok v h=>match M.resume m (meAt f k) fr v with
      | none=>.stop 6 h
      | some fr=>loop M f input fuel g d m fr h
     | .thrown o h=>match after M f m fr o h with
      | .go fr=>loop M f input fuel g d m fr h
      | .thrown=>.thrown o h
      | .stuck=>.stop 6 h
def call {Fr:Type}(M:Mach Fr) (f:Fi) (input:List Int) (fuel g d:Nat) (m:Me) (args:List Vl) (h:Hp):Res Vl :=
 if allOf f.classes h args m.params=false then .stop 6 h
 else if 20≤d then .stop 5 h
 else loop M f input fuel g (d+1) m (M.enter m args) h
structure Sh where
 fin:Int
 value:Int
 cls:Int
 out:List Int
 used:Int
 steps:Int
def Sh.nil:Sh:=⟨0,0,0,[],0,0⟩
def shown (r:Res Vl):Sh :=
 match r with
 | .ok v h=>⟨1,if v.kind=1∨v.kind=2 then v.n else 0,0,h.out,h.used,h.steps⟩
 | .thrown o h=>⟨2,0,(obj h o).cls,h.out,h.used,h.steps⟩
 | .stop e h=>⟨e,0,0,h.out,h.used,h.steps⟩
def argOf (t:Ty) (n:Int):Vl:=if t.kind=1 then ⟨1,wrap32 n⟩ else ⟨t.kind,n⟩
def begin_ (f:Fi) (entry:Int) (args input:List Int) (fuel:Int):Int :=
 if entry < 0∨(f.methods.length:Int)≤entry∨fuel < 0∨60000 < fuel then 4
 else if 1000 < input.length then 1
 else if args.length≠(meAt f entry.toNat).params.length∨(meAt f entry.toNat).params.any (fun t=>decide (t.kind=3))=true then 3
 else 0
def play {Fr:Type}(M:Mach Fr) (f:Fi) (entry:Int) (args input:List Int) (fuel:Int):Sh × Int :=
 if begin_ f entry args input fuel≠0 then (Sh.nil,begin_ f entry args input fuel)
 else (shown (call M f input fuel.toNat (fuel.toNat+1) 0 (meAt f entry.toNat) (List.zipWith argOf (meAt f entry.toNat).params args) ⟨[],[],0,0⟩),0)
structure Sf where
 loc:List Vl
 stk:List Vl
 at_:Nat
def top (l:List Vl):Vl:=l.getLast?.getD Vl.nil
def push (m:Me) (fr:Sf) (st:List Vl) (v:Vl) (h:Hp):Act Sf :=
 if (size (st++[v]):Int)≤m.stack then .go ⟨fr.loc,st++[v],fr.at_+1⟩ h else .stop 6 h
def pop1 (fr:Sf) (h:Hp) (k:Vl→List Vl→Act Sf):Act Sf :=
 if fr.stk=[] then .stop 6 h else k (top fr.stk) fr.stk.dropLast
def pop2 (fr:Sf) (h:Hp) (k:Vl→Vl→List Vl→Act Sf):Act Sf :=
 pop1 fr h fun b st=>if st=[] then .stop 6 h else k (top st) b st.dropLast
def kindly (v:Vl) (kind:Int) (h:Hp) (k:Act Sf):Act Sf:=if v.kind=kind then k else .stop 6 h
def on (fr:Sf) (st:List Vl) (at_:Nat):Sf:=⟨fr.loc,st,at_⟩
def s4 (m:Me) (i:Ins) (fr:Sf) (h:Hp):Act Sf:=kindly (fr.loc.getD i.a.toNat Vl.nil) i.b h (push m fr fr.stk (fr.loc.getD i.a.toNat Vl.nil) h)
def s5 (i:Ins) (fr:Sf) (h:Hp):Act Sf:=pop1 fr h fun v st=>kindly v i.b h (.go ⟨store fr.loc i.a.toNat v,st,fr.at_+1⟩ h)
def s67 (l:List Cls) (m:Me) (kind:Int) (i:Ins) (fr:Sf) (h:Hp):Act Sf:=pop2 fr h fun a b st=>(reckon l a b kind i.a h).act fun v h=>push m fr st v h
def s8 (m:Me) (fr:Sf) (h:Hp):Act Sf:=pop1 fr h fun v st=>kindly v 1 h (push m fr st ⟨2,v.n⟩ h)
def s9 (m:Me) (fr:Sf) (h:Hp):Act Sf:=pop1 fr h fun v st=>kindly v 2 h (push m fr st ⟨1,wrap32 v.n⟩ h)
def s10 (m:Me) (fr:Sf) (h:Hp):Act Sf:=pop2 fr h fun a b st=>kindly b 2 h (kindly a 2 h (push m fr st ⟨1,Num.cmp a.n b.n⟩ h))
def s12 (i:Ins) (fr:Sf) (h:Hp):Act Sf:=pop1 fr h fun v st=>kindly v 1 h (.go (on fr st (if Num.holds i.b v.n then i.a.toNat else fr.at_+1)) h)
def s13 (i:Ins) (fr:Sf) (h:Hp):Act Sf:=pop1 fr h fun v st=>kindly v 3 h (.go (on fr st (if v.n < 0 then i.a.toNat else fr.at_+1)) h)
def s14 (l:List Cls) (m:Me) (i:Ins) (fr:Sf) (h:Hp):Act Sf:=(new l i.a h).act fun v h=>push m fr fr.stk v h
def s15 (l:List Cls) (m:Me) (i:Ins) (fr:Sf) (h:Hp):Act Sf:=pop1 fr h fun v st=>(get l v i.a i.b h).act fun v h=>push m fr st v h
def s16 (l:List Cls) (i:Ins) (fr:Sf) (h:Hp):Act Sf:=pop2 fr h fun r v st=>kindly r 3 h ((put l r i.a i.b v (ftype l i.a i.b) h).act fun _ h=>.go (on fr st (fr.at_+1)) h)
def s17 (l:List Cls) (m:Me) (i:Ins) (fr:Sf) (h:Hp):Act Sf:=pop1 fr h fun v st=>(cast l v i.a h).act fun _ h=>push m fr st v h
def s18 (l:List Cls) (m:Me) (i:Ins) (fr:Sf) (h:Hp):Act Sf:=pop1 fr h fun v st=>(isV l v i.a h).act fun v h=>push m fr st v h
def s19 (f:Fi) (i:Ins) (fr:Sf) (h:Hp):Act Sf :=
 if fr.stk.length < (meAt f i.a.toNat).params.length then .stop 6 h
 else .call i.a.toNat (fr.stk.drop (fr.stk.length - (meAt f i.a.toNat).params.length)) (on fr (fr.stk.take (fr.stk.length - (meAt f i.a.toNat).params.length)) fr.at_) h
def s20 (l:List Cls) (m:Me) (fr:Sf) (h:Hp):Act Sf :=
 if m.ret.kind=0 then .back Vl.nil h else pop1 fr h fun v _=>if ofT l h v m.ret then .back v h else .stop 6 h
def s21 (l:List Cls) (fr:Sf) (h:Hp):Act Sf:=pop1 fr h fun v _=>(throw l v h).act fun (_:Unit) h=>.stop 6 h
def s22 (fr:Sf) (h:Hp):Act Sf:=pop1 fr h fun _ st=>.go (on fr st (fr.at_+1)) h
def s23 (m:Me) (fr:Sf) (h:Hp):Act Sf:=pop1 fr h fun v st=>if (size (st++[v,v]):Int)≤m.stack then .go (on fr (st++[v,v]) (fr.at_+1)) h else .stop 6 h
def s24 (i:Ins) (fr:Sf) (h:Hp):Act Sf:=pop1 fr h fun v st=>(emit v i.a h).act fun _ h=>.go (on fr st (fr.at_+1)) h
def s25 (m:Me) (input:List Int) (fr:Sf) (h:Hp):Act Sf:=(takeIn input h).act fun v h=>push m fr fr.stk v h
def sstep (f:Fi) (input:List Int) (m:Me) (i:Ins) (fr:Sf) (h:Hp):Act Sf :=
 if i.op=1 then push m fr fr.stk ⟨1,i.n⟩ h
 else if i.op=2 then push m fr fr.stk ⟨2,i.n⟩ h
 else if i.op=3 then push m fr fr.stk ⟨3,-1⟩ h
 else if i.op=4 then s4 m i fr h
 else if i.op=5 then s5 i fr h
 else if i.op=6 then s67 f.classes m 1 i fr h
 else if i.op=7 then s67 f.classes m 2 i fr h
 else if i.op=8 then s8 m fr h
 else if i.op=9 then s9 m fr h
 else if i.op=10 then s10 m fr h
 else if i.op=11 then .go (on fr fr.stk i.a.toNat) h
 else if i.op=12 then s12 i fr h
 else if i.op=13 then s13 i fr h
 else if i.op=14 then s14 f.classes m i fr h
 else if i.op=15 then s15 f.classes m i fr h
 else if i.op=16 then s16 f.classes i fr h
 else if i.op=17 then s17 f.classes m i fr h
 else if i.op=18 then s18 f.classes m i fr h
 else if i.op=19 then s19 f i fr h
 else if i.op=20 then s20 f.classes m fr h
 else if i.op=21 then s21 f.classes fr h
 else if i.op=22 then s22 fr h
 else if i.op=23 then s23 m fr h
 else if i.op=24 then s24 i fr h
 else if i.op=25 then s25 m input fr h
 else .stop 6 h
def sresume (m callee:Me) (fr:Sf) (v:Vl):Option Sf :=
 if callee.ret.kind=0 then some (on fr fr.stk (fr.at_+1))
 else if (size (fr.stk++[v]):Int)≤m.stack then some (on fr (fr.stk++[v]) (fr.at_+1)) else none
def scaught (m:Me) (fr:Sf) (at_ o:Nat):Option Sf:=if 1≤m.stack then some (on fr [⟨3,o⟩] at_) else none
def senter (m:Me) (args:List Vl):Sf:=⟨stores (List.replicate m.locals.toNat Vl.nil) 0 args,[],0⟩
def SM:Mach Sf:=⟨Sf.at_,senter,sstep,sresume,scaught⟩
structure Rf where
 regs:List Vl
 at_:Nat
 given:Vl
 got:Vl
def rd (fr:Rf) (a:Int):Vl:=fr.regs.getD a.toNat Vl.nil
def rkind (v:Vl) (kind:Int) (h:Hp) (k:Act Rf):Act Rf:=if v.kind=kind then k else .stop 6 h
def rgo (fr:Rf) (at_:Nat) (h:Hp):Act Rf:=.go ⟨fr.regs,at_,Vl.nil,Vl.nil⟩ h
def rset (fr:Rf) (a:Int) (v:Vl) (h:Hp):Act Rf:=.go ⟨store fr.regs a.toNat v,fr.at_+1,Vl.nil,Vl.nil⟩ h
def rargs (fr:Rf):List Int→List Ty→Option (List Vl)
 | _,[]=>some []
 | [],_ :: _=>none
 | a :: xs,t :: ts=>if (rd fr a).kind=t.kind then (rargs fr xs ts).map (rd fr a :: ·) else none
def r4 (i:Ins) (fr:Rf) (h:Hp):Act Rf:=rkind (rd fr i.b) i.c h (rset fr i.a (rd fr i.b) h)
def r56 (l:List Cls) (kind:Int) (i:Ins) (fr:Rf) (h:Hp):Act Rf:=(reckon l (rd fr i.b) (rd fr i.c) kind i.n h).act fun v h=>rset fr i.a v h
def r7 (i:Ins) (fr:Rf) (h:Hp):Act Rf:=rkind (rd fr i.b) 1 h (rset fr i.a ⟨2,(rd fr i.b).n⟩ h)
def r8 (i:Ins) (fr:Rf) (h:Hp):Act Rf:=rkind (rd fr i.b) 2 h (rset fr i.a ⟨1,wrap32 (rd fr i.b).n⟩ h)
def r9 (i:Ins) (fr:Rf) (h:Hp):Act Rf:=rkind (rd fr i.b) 2 h (rkind (rd fr i.c) 2 h (rset fr i.a ⟨1,Num.cmp (rd fr i.b).n (rd fr i.c).n⟩ h))
def r11 (i:Ins) (fr:Rf) (h:Hp):Act Rf:=rkind (rd fr i.c) 1 h (rgo fr (if Num.holds i.b (rd fr i.c).n then i.a.toNat else fr.at_+1) h)
def r12 (i:Ins) (fr:Rf) (h:Hp):Act Rf:=rkind (rd fr i.c) 3 h (rgo fr (if (rd fr i.c).n < 0 then i.a.toNat else fr.at_+1) h)
def r13 (l:List Cls) (i:Ins) (fr:Rf) (h:Hp):Act Rf:=(new l i.b h).act fun v h=>rset fr i.a v h
def r14 (l:List Cls) (i:Ins) (fr:Rf) (h:Hp):Act Rf:=rkind (rd fr i.b) 3 h ((get l (rd fr i.b) i.c i.n h).act fun v h=>rset fr i.a v h)
def r15 (l:List Cls) (i:Ins) (fr:Rf) (h:Hp):Act Rf:=rkind (rd fr i.b) 3 h (rkind (rd fr i.a) (ftype l i.c i.n).kind h ((put l (rd fr i.b) i.c i.n (rd fr i.a) (ftype l i.c i.n) h).act fun _ h=>rgo fr (fr.at_+1) h))
def r16 (l:List Cls) (i:Ins) (fr:Rf) (h:Hp):Act Rf:=rkind (rd fr i.a) 3 h ((cast l (rd fr i.a) i.b h).act fun _ h=>rgo fr (fr.at_+1) h)
def r17 (l:List Cls) (i:Ins) (fr:Rf) (h:Hp):Act Rf:=rkind (rd fr i.b) 3 h ((isV l (rd fr i.b) i.c h).act fun v h=>rset fr i.a v h)
def r18 (f:Fi) (i:Ins) (fr:Rf) (h:Hp):Act Rf :=
 match rargs fr i.args (meAt f i.a.toNat).params with
 | none=>.stop 6 h
 | some args=>.call i.a.toNat args ⟨fr.regs,fr.at_,Vl.nil,Vl.nil⟩ h
def r19 (i:Ins) (fr:Rf) (h:Hp):Act Rf:=rkind fr.given i.b h (rset fr i.a fr.given h)
def r20 (l:List Cls) (m:Me) (i:Ins) (fr:Rf) (h:Hp):Act Rf :=
 if m.ret.kind=0 then .back Vl.nil h else rkind (rd fr i.a) m.ret.kind h (if ofT l h (rd fr i.a) m.ret then .back (rd fr i.a) h else .stop 6 h)
def r21 (l:List Cls) (i:Ins) (fr:Rf) (h:Hp):Act Rf:=rkind (rd fr i.a) 3 h ((throw l (rd fr i.a) h).act fun (_:Unit) h=>.stop 6 h)
def r22 (i:Ins) (fr:Rf) (h:Hp):Act Rf:=rkind fr.got 3 h (rset fr i.a fr.got h)
def r23 (i:Ins) (fr:Rf) (h:Hp):Act Rf:=rkind (rd fr i.a) i.b h ((emit (rd fr i.a) i.b h).act fun _ h=>rgo fr (fr.at_+1) h)
def r24 (input:List Int) (i:Ins) (fr:Rf) (h:Hp):Act Rf:=(takeIn input h).act fun v h=>rset fr i.a v h
def rstep (f:Fi) (input:List Int) (m:Me) (i:Ins) (fr:Rf) (h:Hp):Act Rf :=
 if i.op=1 then rset fr i.a ⟨1,i.n⟩ h
 else if i.op=2 then rset fr i.a ⟨2,i.n⟩ h
 else if i.op=3 then rset fr i.a ⟨3,-1⟩ h
 else if i.op=4 then r4 i fr h
 else if i.op=5 then r56 f.classes 1 i fr h
 else if i.op=6 then r56 f.classes 2 i fr h
 else if i.op=7 then r7 i fr h
 else if i.op=8 then r8 i fr h
 else if i.op=9 then r9 i fr h
 else if i.op=10 then rgo fr i.a.toNat h
 else if i.op=11 then r11 i fr h
 else if i.op=12 then r12 i fr h
 else if i.op=13 then r13 f.classes i fr h
 else if i.op=14 then r14 f.classes i fr h
 else if i.op=15 then r15 f.classes i fr h
 else if i.op=16 then r16 f.classes i fr h
 else if i.op=17 then r17 f.classes i fr h
 else if i.op=18 then r18 f i fr h
 else if i.op=19 then r19 i fr h
 else if i.op=20 then r20 f.classes m i fr h
 else if i.op=21 then r21 f.classes i fr h
 else if i.op=22 then r22 i fr h
 else if i.op=23 then r23 i fr h
 else if i.op=24 then r24 input i fr h
 else .stop 6 h
def rresume (_ _:Me) (fr:Rf) (v:Vl):Option Rf:=some ⟨fr.regs,fr.at_+1,v,Vl.nil⟩
def rcaught (_:Me) (fr:Rf) (at_ o:Nat):Option Rf:=some ⟨fr.regs,at_,Vl.nil,⟨3,o⟩⟩
def renter (m:Me) (args:List Vl):Rf:=⟨stores (List.replicate m.regs.toNat Vl.nil) 0 args,0,Vl.nil,Vl.nil⟩
def RM:Mach Rf:=⟨Rf.at_,renter,rstep,rresume,rcaught⟩
end Run
namespace Run
open D Num
def VlOk (n:Nat) (v:Vl):Prop:=Ok v.n∧0≤v.kind∧v.kind≤9∧(v.kind=3→-1≤v.n∧v.n < n)
def VtOk (n:Nat) (v:Vl):Prop:=VlOk n v∧1≤v.kind∧v.kind≤3
def kd (l:List Vl) (i:Nat):Int:=(l.getD i Vl.nil).kind
def Paired (l:List Vl):Prop:=(∀ i,kd l i=2→kd l (i+1)=9)∧(∀ i,kd l i=9→0 < i∧kd l (i - 1)=2)
structure SlotsOk (n:Nat) (l:List Vl):Prop where
 vals:∀ i,VlOk n (l.getD i Vl.nil)
 pair:Paired l
def StkOk (n:Nat) (l:List Vl):Prop:=∀ v∈l,VtOk n v
theorem nil_ok (n:Nat):VlOk n Vl.nil:=⟨by simp [Ok,Vl.nil],by simp [Vl.nil],by simp [Vl.nil],by simp [Vl.nil]⟩
theorem VlOk.mono {n m:Nat}{v:Vl}(h:VlOk n v) (hm:n≤m):VlOk m v:=⟨h.1,h.2.1,h.2.2.1,fun e=>⟨(h.2.2.2 e).1,by have:=(h.2.2.2 e).2;omega⟩⟩
theorem VtOk.mono {n m:Nat}{v:Vl}(h:VtOk n v) (hm:n≤m):VtOk m v:=⟨h.1.mono hm,h.2⟩
theorem SlotsOk.mono {n m:Nat}{l:List Vl}(h:SlotsOk n l) (hm:n≤m):SlotsOk m l:=⟨fun i=>(h.vals i).mono hm,h.pair⟩
theorem StkOk.mono {n m:Nat}{l:List Vl}(h:StkOk n l) (hm:n≤m):StkOk m l:=fun v hv=>(h v hv).mono hm
theorem getD_set (l:List Vl) (j i:Nat) (x:Vl):(l.set j x).getD i Vl.nil=if i=j∧j < l.length then x else l.getD i Vl.nil:=by
 rw [List.getD_eq_getElem?_getD,List.getD_eq_getElem?_getD,List.getElem?_set]
 by_cases e:j=i
 ·subst e
  by_cases h:j < l.length
  ·simp [h]
  ·simp [h]
 ·have e':¬ i=j:=fun h=>e h.symm;simp [e,e']
theorem getD_out {l:List Vl}{i:Nat}(h:l.length≤i):l.getD i Vl.nil=Vl.nil:=by
 rw [List.getD_eq_getElem?_getD,List.getElem?_eq_none h];rfl
theorem set_nil (l:List Vl) (j i:Nat):(l.set j Vl.nil).getD i Vl.nil=if i=j then Vl.nil else l.getD i Vl.nil:=by
 rw [getD_set]
 by_cases e:i=j
 ·subst e
  by_cases h:i < l.length
  ·simp [h]
  ·rw [if_neg (by omega),if_pos rfl,getD_out (by omega)]
 ·rw [if_neg (by omega),if_neg e]
theorem lose_len (l:List Vl) (a:Nat):(lose l a).length=l.length:=by
 unfold lose;split
 ·simp
 ·split <;> simp
theorem store_len (l:List Vl) (a:Nat) (v:Vl):(store l a v).length=l.length:=by
 unfold store;split <;> simp [lose_len]
theorem lose_getD (l:List Vl) (a i:Nat):(lose l a).getD i Vl.nil=if i=a∨(kd l a=9∧i+1=a)∨(kd l a=2∧i=a+1) then Vl.nil else l.getD i Vl.nil:=by
 unfold lose
 show (if kd l a=9 then _ else if kd l a=2 then _ else _:List Vl).getD i Vl.nil=_
 by_cases h9:kd l a=9
 ·rw [if_pos h9,set_nil,set_nil]
  by_cases e:i=a
  ·rw [if_pos e,if_pos (.inl e)]
  ·rw [if_neg e]
   by_cases e2:i+1=a
   ·rw [if_pos (by omega),if_pos (.inr (.inl ⟨h9,e2⟩))]
   ·rw [if_neg (by omega),if_neg (by omega)]
 ·rw [if_neg h9]
  by_cases h2:kd l a=2
  ·rw [if_pos h2,set_nil,set_nil]
   by_cases e:i=a
   ·rw [if_pos e,if_pos (.inl e)]
   ·rw [if_neg e]
    by_cases e2:i=a+1
    ·rw [if_pos e2,if_pos (.inr (.inr ⟨h2,e2⟩))]
    ·rw [if_neg e2,if_neg (by omega)]
  ·rw [if_neg h2,set_nil]
   by_cases e:i=a
   ·rw [if_pos e,if_pos (.inl e)]
   ·rw [if_neg e,if_neg (by omega)]
theorem lose_kd (l:List Vl) (a i:Nat):kd (lose l a) i=if i=a∨(kd l a=9∧i+1=a)∨(kd l a=2∧i=a+1) then 0 else kd l i:=by
 unfold kd;rw [lose_getD];unfold kd
 split <;> rfl
theorem lose_paired {l:List Vl}(h:Paired l) (a:Nat):Paired (lose l a):=by
 obtain ⟨hA,hB⟩:=h;have a1:=hA a;have b1:=hB a;refine ⟨fun i hi=>?_,fun i hi=>?_⟩
 ·rw [lose_kd] at hi ⊢
  split at hi
  ·omega
  ·rename_i hn
   have:=hA i hi
   rw [if_neg,this];rintro (e | ⟨e1,e2⟩ | ⟨e1,e2⟩)
   ·subst e;exact hn (.inr (.inl ⟨this,rfl⟩))
   ·have:=(b1 e1).2
    rw [show a - 1=i+1 by omega] at this
    omega
   ·exact hn (.inl (by omega))
 ·rw [lose_kd] at hi
  split at hi
  ·omega
  ·rename_i hn
   have hb:=hB i hi;rw [lose_kd];refine ⟨hb.1,?_⟩;rw [if_neg,hb.2];rintro (e | ⟨e1,e2⟩ | ⟨e1,e2⟩)
   ·have h2:=hb.2;rw [e] at h2;exact hn (.inr (.inr ⟨h2,by omega⟩))
   ·exact hn (.inl (by omega))
   ·have:=a1 e1
    rw [show i - 1=a+1 by omega] at hb
    omega
theorem lose_ok {n:Nat}{l:List Vl}(h:SlotsOk n l) (a:Nat):SlotsOk n (lose l a):=by
 refine ⟨fun i=>?_,lose_paired h.pair a⟩;rw [lose_getD]
 split
 ·exact nil_ok n
 ·exact h.vals i
theorem kd_set (l:List Vl) (j i:Nat) (x:Vl):kd (l.set j x) i=if i=j∧j < l.length then x.kind else kd l i:=by
 unfold kd;rw [getD_set];split <;> rfl
theorem store_ok {n:Nat}{l:List Vl}(h:SlotsOk n l){a:Nat}{v:Vl}(hv:VtOk n v) (ha:a < l.length) (ha2:v.kind=2→a+1 < l.length):SlotsOk n (store l a v):=by
 unfold store
 by_cases h2:v.kind=2
 ·rw [if_pos h2];have hl:=lose_ok (lose_ok h a) (a+1);have ha2:=ha2 h2
  have k0:kd (lose (lose l a) (a+1)) a=0:=by
   rw [lose_kd]
   split
   ·rfl
   ·rw [lose_kd,if_pos (.inl rfl)]
  have k1:kd (lose (lose l a) (a+1)) (a+1)=0:=by rw [lose_kd,if_pos (.inl rfl)]
  have hlen:(lose (lose l a) (a+1)).length=l.length:=by rw [lose_len,lose_len]
  generalize lose (lose l a) (a+1)=q at *
  obtain ⟨hvals,hA,hB⟩:=hl;refine ⟨fun i=>?_,fun i hi=>?_,fun i hi=>?_⟩
  ·rw [getD_set]
   split
   ·exact hv.1
   ·rw [getD_set]
    split
    ·exact ⟨by unfold Ok;simp,by simp,by simp,by simp⟩
    ·exact hvals i
  ·rw [kd_set,kd_set] at hi ⊢;simp only [List.length_set] at hi ⊢
   by_cases e:i=a
   ·subst e;rw [if_neg (by omega),if_pos (by omega)]
   ·rw [if_neg (by omega)] at hi
    by_cases e1:i=a+1
    ·rw [if_pos (by omega)] at hi;simp at hi
    ·rw [if_neg (by omega)] at hi
     have:=hA i hi
     rw [if_neg,if_neg (by omega),this]
     rintro ⟨e2,_⟩;rw [e2,k0] at this;omega
  ·rw [kd_set,kd_set] at hi;simp only [List.length_set] at hi
   by_cases e:i=a
   ·subst e;rw [if_pos (by omega)] at hi;omega
   ·rw [if_neg (by omega)] at hi
    by_cases e1:i=a+1
    ·subst e1;rw [kd_set,kd_set];simp only [List.length_set];rw [if_pos (by omega)]
     exact ⟨by omega,h2⟩
    ·rw [if_neg (by omega)] at hi
     have:=hB i hi
     rw [kd_set,kd_set];simp only [List.length_set];refine ⟨this.1,?_⟩;rw [if_neg,if_neg,this.2]
     ·rintro ⟨e2,_⟩;have h3:=this.2;rw [e2,k1] at h3;omega
     ·rintro ⟨e2,_⟩;have h3:=this.2;rw [e2,k0] at h3;omega
 ·rw [if_neg h2];have hl:=lose_ok h a;have k0:kd (lose l a) a=0:=by rw [lose_kd,if_pos (.inl rfl)]
  generalize lose l a=q at *
  obtain ⟨hvals,hA,hB⟩:=hl;have hk:=hv.2;refine ⟨fun i=>?_,fun i hi=>?_,fun i hi=>?_⟩
  ·rw [getD_set]
   split
   ·exact hv.1
   ·exact hvals i
  ·rw [kd_set] at hi ⊢
   split at hi
   ·omega
   ·have:=hA i hi
    rw [if_neg,this];rintro ⟨e,_⟩;rw [e,k0] at this;omega
  ·rw [kd_set] at hi
   split at hi
   ·omega
   ·have:=hB i hi
    rw [kd_set,if_neg]
    ·exact this
    ·rintro ⟨e,_⟩;have h3:=this.2;rw [e,k0] at h3;omega
theorem pair_lt {l:List Vl}(h:Paired l){i:Nat}(hi:kd l i=2):i+1 < l.length:=by
 have:=h.1 i hi
 refine Nat.lt_of_not_le (fun hle=>?_);unfold kd at this;rw [getD_out hle] at this;simp [Vl.nil] at this
theorem fresh_ok (n k:Nat):SlotsOk n (List.replicate k Vl.nil):=by
 have e:∀ i,(List.replicate k Vl.nil).getD i Vl.nil=Vl.nil:=fun i=>by
  rw [List.getD_eq_getElem?_getD,List.getElem?_replicate];split <;> rfl
 refine ⟨fun i=>by rw [e];exact nil_ok n,fun i hi=>?_,fun i hi=>?_⟩
 ·unfold kd at hi;rw [e] at hi;simp [Vl.nil] at hi
 ·unfold kd at hi;rw [e] at hi;simp [Vl.nil] at hi
structure ObOk (l:List Cls) (n:Nat) (o:Ob):Prop where
 lo:0≤o.cls
 hi:o.cls < l.length
 keys:o.held.map (·.1)=(fresh l o.cls).map (·.1)
 vals:∀ x∈o.held,VtOk n x.2
 kinds:∀ x∈o.held,x.2.kind=(ftype l x.1.1 x.1.2).kind
structure HpOk (l:List Cls) (input:List Int) (fuel:Nat) (h:Hp):Prop where
 many:h.objs.length≤100
 obs:∀ o∈h.objs,ObOk l h.objs.length o
 out:∀ x∈h.out,Ok x
 outs:h.out.length≤h.steps
 used:h.used≤input.length
 steps:h.steps≤fuel
theorem ObOk.mono {l:List Cls}{n m:Nat}{o:Ob}(h:ObOk l n o) (hm:n≤m):ObOk l m o:=⟨h.lo,h.hi,h.keys,fun x hx=>(h.vals x hx).mono hm,h.kinds⟩
theorem fields_ok {l:List Cls}{n c:Nat}{fs:List Ty}(hf:fs.all (Hier.ty l.length)=true):∀ x∈fieldsOf c fs,VtOk n x.2:=by
 intro x hx
 unfold fieldsOf at hx;obtain ⟨k,hk,rfl⟩:=List.mem_map.1 hx;have hk':k < fs.length:=by simpa using hk
 rw [List.getD_eq_getElem?_getD,List.getElem?_eq_getElem hk'];have h1:=List.all_eq_true.1 hf _ (List.getElem_mem hk');simp only [Option.getD_some]
 generalize fs[k]=t at *
 simp only [Hier.ty] at h1;unfold zero VtOk VlOk Ok
 by_cases e:t.kind=3
 ·rw [if_pos e];simp <;> omega
 ·rw [if_neg e];rw [if_neg e] at h1
  by_cases e1:t.kind=1∨t.kind=2
  ·simp <;> omega
  ·rw [if_neg e1] at h1;cases h1
theorem may_fields {l:List Cls}(hm:Hier.may l=true){c:Nat}(hc:c < l.length):(Hier.at' l c).fields.all (Hier.ty l.length)=true:=by
 have:=((Hier.may_iff l).1 hm).2 c hc
 rw [Hier.at_eq hc];unfold Hier.cls at this;rw [Bool.and_eq_true] at this;exact this.2
theorem fresh_vals {l:List Cls}(hm:Hier.may l=true) (n:Nat) (c:Int):∀ x∈fresh l c,VtOk n x.2:=by
 intro x hx
 unfold fresh at hx;obtain ⟨k,hk,hx⟩:=List.mem_flatMap.1 hx
 split at hx
 ·exact fields_ok (may_fields hm (by simpa using hk)) x hx
 ·cases hx
theorem fresh_kinds {l:List Cls}(c:Int):∀ x∈fresh l c,x.2.kind=(ftype l x.1.1 x.1.2).kind:=by
 intro x hx
 unfold fresh at hx;obtain ⟨k,hk,hx⟩:=List.mem_flatMap.1 hx
 split at hx
 ·unfold fieldsOf at hx;obtain ⟨j,hj,rfl⟩:=List.mem_map.1 hx;simp only [ftype,Int.toNat_natCast,zero]
  split
  ·rename_i e;rw [e]
  ·rfl
 ·cases hx
theorem find_mem {l:List ((Int × Int) × Vl)}{k:Int × Int}(h:k∈l.map (·.1)):∃ x∈l,x.1=k∧find l k=x.2:=by
 unfold find
 cases hf:l.find? fun x=>decide (x.1=k) with
 | none =>
  rw [List.find?_eq_none] at hf;obtain ⟨x,hx,e⟩:=List.mem_map.1 h;exact absurd (by simpa using e) (hf x hx)
 | some x =>
  have h1:=List.find?_some hf;exact ⟨x,List.mem_of_find?_eq_some hf,by simpa using h1,rfl⟩
theorem fresh_has {l:List Cls}{c d k:Int}(hd:0≤d∧d < l.length) (hi:Hier.is l c d=true) (hk:0≤k∧k < ((Hier.at' l d.toNat).fields.length:Int)):(d,k)∈(fresh l c).map (·.1):=by
 rw [List.mem_map];have e1:((d.toNat:Nat):Int)=d:=by omega
 have e2:((k.toNat:Nat):Int)=k:=by omega
 refine ⟨((d,k),zero ((Hier.at' l d.toNat).fields.getD k.toNat ⟨0,0⟩)),?_,rfl⟩;unfold fresh;rw [List.mem_flatMap];refine ⟨d.toNat,by simp;omega,?_⟩
 rw [e1,if_pos hi];unfold fieldsOf;rw [List.mem_map];exact ⟨k.toNat,by simp;omega,by rw [e1,e2]⟩
theorem become_keys (l:List ((Int × Int) × Vl)) (k:Int × Int) (v:Vl):(become l k v).map (·.1)=l.map (·.1):=by
 unfold become;rw [List.map_map]
 apply List.map_congr_left
 intro x _
 simp only [Function.comp]
 split
 ·rename_i e;exact e.symm
 ·rfl
theorem become_vals {n:Nat}{l:List ((Int × Int) × Vl)}{k:Int × Int}{v:Vl}(h:∀ x∈l,VtOk n x.2) (hv:VtOk n v):∀ x∈become l k v,VtOk n x.2:=by
 intro x hx
 unfold become at hx;obtain ⟨y,hy,rfl⟩:=List.mem_map.1 hx
 split
 ·exact hv
 ·exact h y hy
theorem become_kinds {l:List Cls}{q:List ((Int × Int) × Vl)}{k:Int × Int}{v:Vl}(h:∀ x∈q,x.2.kind=(ftype l x.1.1 x.1.2).kind) (hv:v.kind=(ftype l k.1 k.2).kind):∀ x∈become q k v,x.2.kind=(ftype l x.1.1 x.1.2).kind:=by
 intro x hx
 unfold become at hx;obtain ⟨y,hy,rfl⟩:=List.mem_map.1 hx
 split
 ·exact hv
 ·exact h y hy
theorem of_kind {l:List Cls}{h:Hp}{v:Vl}{t:Ty}(h1:ofT l h v t=true):v.kind=t.kind:=by
 unfold ofT at h1;simp only [Bool.and_eq_true,decide_eq_true_eq] at h1;exact h1.1
theorem obj_mem {h:Hp}{n:Int}(h0:0≤n) (h1:n < h.objs.length):obj h n∈h.objs:=by
 unfold obj;rw [List.getD_eq_getElem?_getD,List.getElem?_eq_getElem (by omega)]
 exact List.getElem_mem _
def ResOk {α:Type}(l:List Cls) (input:List Int) (fuel:Nat) (h0:Hp) (R:α→Hp→Prop):Res α→Prop
 | .ok a h=>HpOk l input fuel h∧h0.objs.length≤h.objs.length∧h.steps=h0.steps∧R a h
 | .thrown o h=>HpOk l input fuel h∧h0.objs.length≤h.objs.length∧h.steps=h0.steps∧o < h.objs.length
 | .stop _ h=>HpOk l input fuel h∧h0.objs.length≤h.objs.length∧h.steps=h0.steps
section
variable {l:List Cls}{input:List Int}{fuel:Nat}{h:Hp}
theorem new_ok (hm:Hier.may l=true) (H:HpOk l input fuel h){c:Int}(hc:0≤c∧c < l.length):ResOk l input fuel h (fun v h=>VtOk h.objs.length v∧v.kind=3∧0≤v.n) (new l c h):=by
 unfold new
 split
 ·exact ⟨H,Nat.le_refl _,rfl⟩
 ·refine ⟨⟨by simp;omega,fun o ho=>?_,H.out,H.outs,H.used,H.steps⟩,by simp,rfl,?_⟩
  ·simp only [List.length_append,List.length_cons,List.length_nil]
   rcases List.mem_append.1 ho with ho | ho
   ·exact (H.obs o ho).mono (by omega)
   ·have:o=⟨c,fresh l c⟩:=by simpa using ho
    subst this;exact ⟨hc.1,hc.2,rfl,fresh_vals hm _ _,fresh_kinds _⟩
  ·refine ⟨⟨⟨?_,?_,?_,?_⟩,?_,?_⟩,rfl,?_⟩ <;> simp [Ok] <;> omega
theorem raise_ok {α:Type}{R:α→Hp→Prop}(hm:Hier.may l=true) (H:HpOk l input fuel h){c:Int}(hc:0≤c∧c < l.length):ResOk l input fuel h R (raise l c h:Res α):=by
 have:=new_ok hm H hc
 unfold raise
 cases hn:new l c h with
 | ok v h' =>
  rw [hn] at this;obtain ⟨h1,h2,h3,h4,h5,h6⟩:=this
  have:=h4.1.2.2.2 h5
  exact ⟨h1,h2,h3,by omega⟩
 | thrown o h'=>rw [hn] at this;exact this
 | stop e h'=>rw [hn] at this;exact this
theorem throw_ok {α:Type}{R:α→Hp→Prop}(hm:Hier.may l=true) (H:HpOk l input fuel h){v:Vl}(hv:VlOk h.objs.length v):ResOk l input fuel h R (throw l v h:Res α):=by
 unfold throw
 split
 ·exact ⟨H,Nat.le_refl _,rfl⟩
 ·split
  ·have:=(Hier.may_iff l).1 hm
   exact raise_ok hm H (by omega)
  ·rename_i h1 h2
   have:=hv.2.2.2 (by omega)
   exact ⟨H,Nat.le_refl _,rfl,by omega⟩
theorem of_ref {v:Vl}{c:Int}(h1:ofT l h v ⟨3,c⟩=true):v.kind=3∧(v.n < 0∨Hier.is l (obj h v.n).cls c=true):=by
 unfold ofT at h1;simp only [Bool.and_eq_true,Bool.or_eq_true,decide_eq_true_eq] at h1;obtain ⟨h1,h2⟩:=h1;refine ⟨h1,?_⟩
 rcases h2 with (h2 | h2) | h2
 ·simp at h2
 ·exact .inl h2
 ·exact .inr h2
theorem get_ok (hm:Hier.may l=true) (H:HpOk l input fuel h){v:Vl}(hv:VlOk h.objs.length v){c k:Int}(hc:0≤c∧c < l.length) (hk:0≤k∧k < ((Hier.at' l c.toNat).fields.length:Int)):ResOk l input fuel h (fun x h'=>h'=h∧VtOk h.objs.length x∧x.kind=(ftype l c k).kind) (get l v c k h):=by
 unfold get
 cases ho:ofT l h v ⟨3,c⟩
 ·exact ⟨H,Nat.le_refl _,rfl⟩
 ·rw [if_neg (by simp)]
  obtain ⟨h3,h4⟩:=of_ref ho
  split
  ·have:=(Hier.may_iff l).1 hm
   exact raise_ok hm H (by omega)
  ·rename_i hn
   have hvn:=hv.2.2.2 h3;have hO:=H.obs _ (obj_mem (h:=h) (n:=v.n) (by omega) (by omega))
   have hi:Hier.is l (obj h v.n).cls c=true:=by
                                                         rcases h4 with h4 | h4;· omega
                                                         · exact h4
   have hmem:=fresh_has hc hi hk;rw [← hO.keys] at hmem;obtain ⟨x,hx,e1,e⟩:=find_mem hmem;refine ⟨H,Nat.le_refl _,rfl,rfl,by rw [e];exact hO.vals x hx,?_⟩
   rw [e,hO.kinds x hx,e1]
theorem put_ok (hm:Hier.may l=true) (H:HpOk l input fuel h){r v:Vl}(hr:VlOk h.objs.length r) (hv:VtOk h.objs.length v){c k:Int}:ResOk l input fuel h (fun _ _=>True) (put l r c k v (ftype l c k) h):=by
 unfold put
 split
 ·exact ⟨H,Nat.le_refl _,rfl⟩
 ·split
  ·exact ⟨H,Nat.le_refl _,rfl⟩
  ·rename_i h0 h1
   obtain ⟨h3,h4⟩:=of_ref (by simpa using h1)
   split
   ·have:=(Hier.may_iff l).1 hm
    exact raise_ok hm H (by omega)
   ·have hvn:=hr.2.2.2 h3;have hO:=H.obs _ (obj_mem (h:=h) (n:=r.n) (by omega) (by omega))
    refine ⟨⟨by simpa using H.many,fun o ho=>?_,H.out,H.outs,H.used,H.steps⟩,by simp,rfl,trivial⟩
    simp only [List.length_set]
    rcases List.mem_or_eq_of_mem_set ho with ho | ho
    ·exact H.obs o ho
    ·subst ho;exact ⟨hO.lo,hO.hi,(become_keys _ _ _).trans hO.keys,become_vals hO.vals hv,become_kinds hO.kinds (of_kind (by simpa using h0))⟩
theorem cast_ok (hm:Hier.may l=true) (H:HpOk l input fuel h){v:Vl}{c:Int}:ResOk l input fuel h (fun _ h'=>h'=h) (cast l v c h):=by
 unfold cast
 split
 ·exact ⟨H,Nat.le_refl _,rfl⟩
 ·split
  ·have:=(Hier.may_iff l).1 hm
   exact raise_ok hm H (by omega)
  ·exact ⟨H,Nat.le_refl _,rfl,rfl⟩
theorem isV_ok (H:HpOk l input fuel h){v:Vl}{c:Int}:ResOk l input fuel h (fun x h'=>h'=h∧VtOk h.objs.length x∧x.kind=1) (isV l v c h):=by
 unfold isV
 split
 ·exact ⟨H,Nat.le_refl _,rfl⟩
 ·refine ⟨H,Nat.le_refl _,rfl,rfl,?_,rfl⟩
  split <;> refine ⟨⟨?_,?_,?_,?_⟩,?_,?_⟩ <;> simp [Ok]
theorem numOf_ok (kind op a b:Int) (ha:Ok a) (hb:Ok b):Ok (numOf kind op a b).1:=by
 unfold numOf
 split
 ·unfold Num.int;exact wrap32_ok _
 ·exact Num.long_ok op a b ha
theorem reckon_ok (hm:Hier.may l=true) (H:HpOk l input fuel h){a b:Vl}(ha:Ok a.n) (hb:Ok b.n){kind op:Int}(hk:kind=1∨kind=2):ResOk l input fuel h (fun x h'=>h'=h∧VtOk h.objs.length x∧x.kind=kind) (reckon l a b kind op h):=by
 unfold reckon
 split
 ·exact ⟨H,Nat.le_refl _,rfl⟩
 ·split
  ·have:=(Hier.may_iff l).1 hm
   exact raise_ok hm H (by omega)
  ·refine ⟨H,Nat.le_refl _,rfl,rfl,⟨⟨numOf_ok kind op a.n b.n ha hb,?_,?_,?_⟩,?_,?_⟩,rfl⟩ <;> simp <;> omega
end
end Run
namespace Run
open D Num
def RetOk (m:Me) (n:Nat) (v:Vl):Prop:=if m.ret.kind=0 then v=Vl.nil else VtOk n v
def From (l:List Cls) (input:List Int) (fuel:Nat) (h0 h:Hp):Prop:=HpOk l input fuel h∧h0.objs.length≤h.objs.length∧h.steps=h0.steps
def ActOk {Fr:Type}(FrOk:Me→Nat→Fr→Prop) (f:Fi) (input:List Int) (fuel:Nat) (m:Me) (h0:Hp):Act Fr→Prop
 | .go fr h=>From f.classes input fuel h0 h∧FrOk m h.objs.length fr
 | .back v h=>From f.classes input fuel h0 h∧RetOk m h.objs.length v
 | .thrown o h=>From f.classes input fuel h0 h∧o < h.objs.length
 | .stop _ h=>From f.classes input fuel h0 h
 | .call k args fr h=>From f.classes input fuel h0 h∧FrOk m h.objs.length fr∧(∀ v∈args,VtOk h.objs.length v)∧args.length=(meAt f k).params.length∧k < f.methods.length
theorem From.refl {l:List Cls}{input:List Int}{fuel:Nat}{h:Hp}(H:HpOk l input fuel h):From l input fuel h h:=⟨H,Nat.le_refl _,rfl⟩
theorem act_ok {Fr α:Type}{FrOk:Me→Nat→Fr→Prop}{f:Fi}{input:List Int}{fuel:Nat}{m:Me}{h0:Hp}{R:α→Hp→Prop}{r:Res α}{k:α→Hp→Act Fr}
  (hr:ResOk f.classes input fuel h0 R r) (hk:∀ a h,From f.classes input fuel h0 h→R a h→ActOk FrOk f input fuel m h0 (k a h)):ActOk FrOk f input fuel m h0 (r.act k):=by
 cases r with
 | ok a h=>exact hk a h ⟨hr.1,hr.2.1,hr.2.2.1⟩ hr.2.2.2
 | thrown o h=>exact ⟨⟨hr.1,hr.2.1,hr.2.2.1⟩,hr.2.2.2⟩
 | stop e h=>exact hr
structure MachOk {Fr:Type}(M:Mach Fr) (FrOk:Me→Nat→Fr→Prop) (f:Fi) (input:List Int) (fuel:Nat):Prop where
 may:Hier.may f.classes=true
 step:∀ m∈f.methods,∀ i∈m.code,∀ fr h,HpOk f.classes input fuel h→h.out.length < h.steps→FrOk m h.objs.length fr→ActOk FrOk f input fuel m h (M.step f input m i fr h)
 enter:∀ m∈f.methods,∀ n args,(∀ v∈args,VtOk n v)→args.length=m.params.length→(∀ i (h:i < args.length),(args[i].kind=(m.params.getD i ⟨0,0⟩).kind))→FrOk m n (M.enter m args)
 resume:∀ m∈f.methods,∀ callee n v fr fr',FrOk m n fr→RetOk callee n v→M.resume m callee fr v=some fr'→FrOk m n fr'
 caught:∀ m∈f.methods,∀ n o at_ fr fr',o < n→n≤100→FrOk m n fr→M.caught m fr at_ o=some fr'→FrOk m n fr'
 mono:∀ m n n' fr,n≤n'→FrOk m n fr→FrOk m n' fr
def CallOk (f:Fi) (input:List Int) (fuel:Nat) (m:Me) (h0:Hp):Res Vl→Prop
 | .ok v h=>(HpOk f.classes input fuel h∧h0.objs.length≤h.objs.length∧h0.steps≤h.steps)∧RetOk m h.objs.length v
 | .thrown o h=>(HpOk f.classes input fuel h∧h0.objs.length≤h.objs.length∧h0.steps≤h.steps)∧o < h.objs.length
 | .stop _ h=>HpOk f.classes input fuel h∧h0.objs.length≤h.objs.length∧h0.steps≤h.steps
theorem CallOk.from {f:Fi}{input:List Int}{fuel:Nat}{m:Me}{h0 h1:Hp}{r:Res Vl}(h:CallOk f input fuel m h1 r) (h2:h0.objs.length≤h1.objs.length) (h3:h0.steps≤h1.steps):CallOk f input fuel m h0 r:=by
 cases r with
 | ok v h'=>obtain ⟨⟨a,b,c⟩,d⟩:=h;exact ⟨⟨a,by omega,by omega⟩,d⟩
 | thrown o h'=>obtain ⟨⟨a,b,c⟩,d⟩:=h;exact ⟨⟨a,by omega,by omega⟩,d⟩
 | stop e h'=>obtain ⟨a,b,c⟩:=h;exact ⟨a,by omega,by omega⟩
theorem step_hp {l:List Cls}{input:List Int}{fuel:Nat}{h:Hp}(H:HpOk l input fuel h) (hs:h.steps < fuel):HpOk l input fuel { h with steps:=h.steps+1 } :=
 ⟨H.many,H.obs,H.out,by have:=H.outs;simp only;omega,H.used,by simp only;omega⟩
theorem allOf_kind {l:List Cls}{h:Hp}:∀ (args:List Vl) (ts:List Ty),allOf l h args ts=true→∀ i (hi:i < args.length),i < ts.length→args[i].kind=(ts.getD i ⟨0,0⟩).kind:=by
 intro args
 induction args with
 | nil=>intro ts _ i hi;simp at hi
 | cons v vs ih =>
  intro ts ha i hi hts
  cases ts with
  | nil=>simp at hts
  | cons t ts =>
   simp only [allOf,Bool.and_eq_true] at ha
   cases i with
   | zero =>
    have:=ha.1
    simp only [ofT,Bool.and_eq_true,decide_eq_true_eq] at this
    simpa using this.1
   | succ i=>simpa using ih ts ha.2 i (by simpa using hi) (by simpa using hts)
theorem meAt_mem {f:Fi}{k:Nat}(h:k < f.methods.length):meAt f k∈f.methods:=by
 unfold meAt;rw [List.getD_eq_getElem?_getD,List.getElem?_eq_getElem h];exact List.getElem_mem h
section
variable {Fr:Type}{M:Mach Fr}{FrOk:Me→Nat→Fr→Prop}{f:Fi}{input:List Int}{fuel:Nat}
theorem after_go (K:MachOk M FrOk f input fuel){m:Me}(hm:m∈f.methods){fr fr':Fr}{o:Nat}{h:Hp}(ho:o < h.objs.length) (H:HpOk f.classes input fuel h) (hf:FrOk m h.objs.length fr) (ha:after M f m fr o h=.go fr'):FrOk m h.objs.length fr':=by
 unfold after at ha
 split at ha
 ·cases ha
 ·split at ha
  ·cases ha
  ·rename_i hc
   injection ha with ha
   subst ha;exact K.caught m hm _ o _ _ _ ho H.many hf hc
theorem loop_ok (K:MachOk M FrOk f input fuel):∀ (g d:Nat) (m:Me) (fr:Fr) (h:Hp),m∈f.methods→HpOk f.classes input fuel h→FrOk m h.objs.length fr→CallOk f input fuel m h (loop M f input fuel g d m fr h):=by
 intro g
 induction g with
 | zero=>intro d m fr h hm H hf;exact ⟨H,Nat.le_refl _,Nat.le_refl _⟩
 | succ g ih =>
  intro d m fr h hm H hf
  rw [loop]
  by_cases hs:fuel≤h.steps
  ·rw [if_pos hs];exact ⟨H,Nat.le_refl _,Nat.le_refl _⟩
  ·rw [if_neg hs];have H1:=step_hp H (by omega)
   cases hi:m.code[M.at_ fr]? with
   | none=>exact ⟨H1,Nat.le_refl _,Nat.le_succ _⟩
   | some i =>
    have hst:=K.step m hm i (List.mem_of_getElem? hi) fr _ H1 (by have:=H.outs;simp only;omega) hf
    simp only
    cases hc:M.step f input m i fr { h with steps:=h.steps+1 } with
    | stop e h' =>
     rw [hc] at hst;obtain ⟨a,b,c⟩:=hst;simp only at b c;exact ⟨a,b,by omega⟩
    | back v h' =>
     rw [hc] at hst;obtain ⟨⟨a,b,c⟩,e⟩:=hst;simp only at b c;exact ⟨⟨a,b,by omega⟩,e⟩
    | go fr' h' =>
     rw [hc] at hst;obtain ⟨⟨a,b,c⟩,e⟩:=hst;simp only at b c;exact (ih d m fr' h' hm a e).from b (by omega)
    | thrown o h' =>
     rw [hc] at hst;obtain ⟨⟨a,b,c⟩,e⟩:=hst;simp only at b c;simp only
     cases hn:after M f m fr o h' with
     | go fr'=>exact (ih d m fr' h' hm a (after_go K hm e a (K.mono _ _ _ _ b hf) hn)).from b (by omega)
     | thrown=>exact ⟨⟨a,b,by omega⟩,e⟩
     | stuck=>exact ⟨a,b,by omega⟩
    | call k args fr' h' =>
     rw [hc] at hst;obtain ⟨⟨a,b,c⟩,e,hv,hl,hk⟩:=hst;simp only at b c;simp only
     cases hall:allOf f.classes h' args (meAt f k).params
     ·rw [if_pos rfl];exact ⟨a,b,by omega⟩
     ·rw [if_neg (by simp)]
      by_cases hd:20≤d
      ·rw [if_pos hd];exact ⟨a,b,by omega⟩
      ·rw [if_neg hd];have hin:=ih (d+1) (meAt f k) (M.enter (meAt f k) args) h' (meAt_mem hk) a (K.enter _ (meAt_mem hk) _ args hv hl (fun i hi=>allOf_kind args _ hall i hi (by omega)))
       cases hr:loop M f input fuel g (d+1) (meAt f k) (M.enter (meAt f k) args) h' with
       | stop e' h2=>rw [hr] at hin;obtain ⟨p,q,r⟩:=hin;exact ⟨p,by omega,by omega⟩
       | ok v h2 =>
        rw [hr] at hin;obtain ⟨⟨p,q,r⟩,s⟩:=hin;simp only
        cases hre:M.resume m (meAt f k) fr' v with
        | none=>exact ⟨p,by omega,by omega⟩
        | some fr2=>exact (ih d m fr2 h2 hm p (K.resume m hm _ _ _ _ _ (K.mono _ _ _ _ q e) s hre)).from (by omega) (by omega)
       | thrown o h2 =>
        rw [hr] at hin;obtain ⟨⟨p,q,r⟩,s⟩:=hin;simp only
        cases hn:after M f m fr' o h2 with
        | go fr2=>exact (ih d m fr2 h2 hm p (after_go K hm s p (K.mono _ _ _ _ q e) hn)).from (by omega) (by omega)
        | thrown=>exact ⟨⟨p,by omega,by omega⟩,s⟩
        | stuck=>exact ⟨p,by omega,by omega⟩
theorem call_ok (K:MachOk M FrOk f input fuel) (g d:Nat) (m:Me) (args:List Vl) (h:Hp) (hm:m∈f.methods) (H:HpOk f.classes input fuel h) (hv:∀ v∈args,VtOk h.objs.length v) (hl:args.length=m.params.length):CallOk f input fuel m h (call M f input fuel g d m args h):=by
 unfold call
 cases hall:allOf f.classes h args m.params
 ·rw [if_pos rfl];exact ⟨H,Nat.le_refl _,Nat.le_refl _⟩
 ·rw [if_neg (by simp)]
  split
  ·exact ⟨H,Nat.le_refl _,Nat.le_refl _⟩
  ·exact loop_ok K g (d+1) m _ h hm H (K.enter m hm _ args hv hl (fun i hi=>allOf_kind args _ hall i hi (by omega)))
end
theorem rng_iff {n lo hi:Int}:Form.rng n lo hi=true↔lo≤n∧n < hi:=by simp [Form.rng]
structure InS (f:Fi) (m:Me) (i:Ins):Prop where
 op:1≤i.op∧i.op≤25
 n1:i.op=1→wrap32 i.n=i.n
 slot:i.op=4∨i.op=5→(1≤i.b∧i.b≤3)∧0≤i.a∧i.a < m.locals+1 - Form.wide i.b
 ops:i.op=6∨i.op=7→1≤i.a∧i.a < 9
 jump:i.op=11∨i.op=12∨i.op=13→0≤i.a∧i.a < m.code.length
 cls:i.op=14∨i.op=15∨i.op=16∨i.op=17∨i.op=18→0≤i.a∧i.a < f.classes.length
 fld:i.op=15∨i.op=16→0≤i.b∧i.b < Form.nf f.classes i.a
 meth:i.op=19→0≤i.a∧i.a < f.methods.length
 out:i.op=24→1≤i.a∧i.a < 3
theorem inS_of {f:Fi}{m:Me}{i:Ins}(h:Form.sins f.classes f.methods.length m.code.length m.locals i=true):InS f m i:=by
 simp only [Form.sins,Bool.and_eq_true] at h;obtain ⟨⟨⟨⟨ha,hb⟩,hn⟩,_⟩,_⟩:=h
 have hop:1≤i.op∧i.op≤25:=by
  unfold Form.sa at ha
  repeat' split at ha
  all_goals first | omega | simp at ha
 refine ⟨hop,fun e=>?_,fun e=>⟨?_,?_⟩,fun e=>?_,fun e=>?_,fun e=>?_,fun e=>?_,fun e=>?_,fun e=>?_⟩
 ·rw [Form.sn,if_pos e] at hn;simpa using hn
 ·rw [Form.sb,if_pos e] at hb;have:=rng_iff.1 hb;omega
 ·rw [Form.sa,if_pos e] at ha;have:=rng_iff.1 ha;omega
 ·rw [Form.sa,if_neg (by omega),if_pos e] at ha;exact rng_iff.1 ha
 ·rw [Form.sa,if_neg (by omega),if_neg (by omega),if_pos e] at ha;exact rng_iff.1 ha
 ·rw [Form.sa,if_neg (by omega),if_neg (by omega),if_neg (by omega),if_pos e] at ha;exact rng_iff.1 ha
 ·rw [Form.sb,if_neg (by omega),if_neg (by omega),if_pos e,Bool.and_eq_true] at hb;exact rng_iff.1 hb.2
 ·rw [Form.sa,if_neg (by omega),if_neg (by omega),if_neg (by omega),if_neg (by omega),if_pos e] at ha;exact rng_iff.1 ha
 ·rw [Form.sa,if_neg (by omega),if_neg (by omega),if_neg (by omega),if_neg (by omega),if_neg (by omega),if_pos e] at ha;exact rng_iff.1 ha
structure MeS (f:Fi) (m:Me):Prop where
 ins:∀ i∈m.code,InS f m i
 stack:0≤m.stack∧m.stack < 31
 locals:(Form.slots m.params:Int)≤m.locals∧m.locals < 61
 params:m.params.length≤4∧∀ t∈m.params,Hier.ty f.classes.length t=true
 ret:Form.ret f.classes.length m.ret=true
 code:1≤m.code.length∧m.code.length≤400
 hds:m.handlers.length≤8∧∀ x∈m.handlers,Form.hd f.classes.length m.code.length x=true
structure FiS (f:Fi):Prop where
 may:Hier.may f.classes=true
 many:1≤f.methods.length∧f.methods.length≤8
 mes:∀ m∈f.methods,MeS f m
theorem head_iff {nc:Int}{m:Me}{most:Int}(h:Form.head nc m most=true):(∀ t∈m.params,Hier.ty nc t=true)∧(∀ x∈m.handlers,Form.hd nc m.code.length x=true)∧m.params.length≤4∧Form.ret nc m.ret=true∧(1≤(m.code.length:Int)∧(m.code.length:Int) < most+1)∧m.handlers.length≤8:=by
 simp only [Form.head,Bool.and_eq_true,decide_eq_true_eq,List.all_eq_true,rng_iff] at h;obtain ⟨⟨⟨⟨⟨h1,h2⟩,h3⟩,h4⟩,h5⟩,h6⟩:=h;exact ⟨h1,h2,h3,h4,h5,h6⟩
theorem fiS_of {f:Fi}(h:Form.smay f=true):FiS f:=by
 simp only [Form.smay,Bool.and_eq_true,rng_iff,List.all_eq_true] at h;obtain ⟨⟨h1,h2⟩,h3⟩:=h;refine ⟨h1,by omega,fun m hm=>?_⟩
 have:=h3 m hm
 simp only [Form.sme,Bool.and_eq_true,rng_iff,List.all_eq_true,decide_eq_true_eq] at this;obtain ⟨⟨⟨⟨h4,_⟩,h5⟩,h6⟩,h7⟩:=this;obtain ⟨p1,p2,p3,p4,p5,p6⟩:=head_iff h4;exact ⟨fun i hi=>inS_of (h7 i hi),h5,⟨h6.1,h6.2⟩,⟨p3,p1⟩,p4,by omega,p6,p2⟩
structure SfOk (m:Me) (n:Nat) (fr:Sf):Prop where
 loc:SlotsOk n fr.loc
 len:fr.loc.length=m.locals.toNat
 stk:StkOk n fr.stk
theorem SfOk.mono {m:Me}{n n':Nat}{fr:Sf}(h:SfOk m n fr) (hn:n≤n'):SfOk m n' fr:=⟨h.loc.mono hn,h.len,h.stk.mono hn⟩
theorem StkOk.nil (n:Nat):StkOk n []:=fun v hv=>by cases hv
theorem StkOk.snoc {n:Nat}{st:List Vl}{v:Vl}(h:StkOk n st) (hv:VtOk n v):StkOk n (st++[v]):=fun x hx=>by
 rcases List.mem_append.1 hx with hx | hx
 ·exact h x hx
 ·have:x=v:=by simpa using hx
  subst this;exact hv
theorem StkOk.dropLast {n:Nat}{st:List Vl}(h:StkOk n st):StkOk n st.dropLast:=fun x hx=>h x (List.dropLast_subset st hx)
theorem StkOk.top {n:Nat}{st:List Vl}(h:StkOk n st) (hne:st≠[]):VtOk n (Run.top st):=by
 unfold Run.top;rw [List.getLast?_eq_some_getLast hne];exact h _ (List.getLast_mem hne)
section
variable {f:Fi}{input:List Int}{fuel:Nat}{m:Me}{i:Ins}{fr:Sf}{h0 h:Hp}
theorem push_ok (F:From f.classes input fuel h0 h) (hf:SfOk m h0.objs.length fr){st:List Vl}(hs:StkOk h.objs.length st){v:Vl}(hv:VtOk h.objs.length v):ActOk SfOk f input fuel m h0 (push m fr st v h):=by
 unfold push
 split
 ·exact ⟨F,hf.loc.mono F.2.1,hf.len,hs.snoc hv⟩
 ·exact F
theorem pop1_ok (F:From f.classes input fuel h0 h) (hf:SfOk m h.objs.length fr){k:Vl→List Vl→Act Sf}(hk:∀ v st,VtOk h.objs.length v→StkOk h.objs.length st→ActOk SfOk f input fuel m h0 (k v st)):ActOk SfOk f input fuel m h0 (pop1 fr h k):=by
 unfold pop1
 split
 ·exact F
 ·rename_i hne
  exact hk _ _ (hf.stk.top hne) hf.stk.dropLast
theorem pop2_ok (F:From f.classes input fuel h0 h) (hf:SfOk m h.objs.length fr){k:Vl→Vl→List Vl→Act Sf}(hk:∀ a b st,VtOk h.objs.length a→VtOk h.objs.length b→StkOk h.objs.length st→ActOk SfOk f input fuel m h0 (k a b st)):ActOk SfOk f input fuel m h0 (pop2 fr h k):=by
 unfold pop2;refine pop1_ok F hf (fun b st hb hs=>?_)
 split
 ·exact F
 ·rename_i hne
  exact hk _ _ _ (hs.top hne) hb hs.dropLast
theorem kindly_ok (F:From f.classes input fuel h0 h){v:Vl}{kind:Int}{k:Act Sf}(hk:v.kind=kind→ActOk SfOk f input fuel m h0 k):ActOk SfOk f input fuel m h0 (kindly v kind h k):=by
 unfold kindly
 split
 ·exact hk ‹_›
 ·exact F
theorem int_ok' (n:Nat){x:Int}(h:Ok x) (k:Int) (hk:k=1∨k=2):VtOk n ⟨k,x⟩:=⟨⟨h,by simp only;omega,by simp only;omega,by simp only;omega⟩,by simp only;omega,by simp only;omega⟩
theorem null_ok (n:Nat):VtOk n ⟨3,-1⟩:=⟨⟨by simp [Ok],by simp,by simp,by simp;omega⟩,by simp,by simp⟩
theorem cmp_okr (a b:Int):Ok (Num.cmp a b):=by unfold Num.cmp Ok;split <;> (try split) <;> omega
theorem sstep_ok (hm:Hier.may f.classes=true) (M:MeS f m) (hi:InS f m i) (hio:Ok i.n) (hin:∀ x∈input,Ok x) (H:HpOk f.classes input fuel h) (ho:h.out.length < h.steps) (hf:SfOk m h.objs.length fr):ActOk SfOk f input fuel m h (sstep f input m i fr h):=by
 have F:=From.refl H;have go:∀ (st:List Vl) (at_:Nat) (h':Hp),From f.classes input fuel h h'→StkOk h'.objs.length st→ActOk SfOk f input fuel m h (.go (on fr st at_) h'):=fun st at_ h' F' hs=>⟨F',hf.loc.mono F'.2.1,hf.len,hs⟩;unfold sstep
 by_cases q1:i.op=1
 ·rw [if_pos q1];exact push_ok F hf hf.stk (int_ok' _ hio 1 (.inl rfl))
 rw [if_neg q1]
 by_cases q2:i.op=2
 ·rw [if_pos q2];exact push_ok F hf hf.stk (int_ok' _ hio 2 (.inr rfl))
 rw [if_neg q2]
 by_cases q3:i.op=3
 ·rw [if_pos q3];exact push_ok F hf hf.stk (null_ok _)
 rw [if_neg q3]
 by_cases q4:i.op=4
 ·rw [if_pos q4];obtain ⟨hb,ha⟩:=hi.slot (.inl q4);exact kindly_ok F (fun e=>push_ok F hf hf.stk ⟨hf.loc.vals _,by omega,by omega⟩)
 rw [if_neg q4]
 by_cases q5:i.op=5
 ·rw [if_pos q5];obtain ⟨hb,ha0,ha1⟩:=hi.slot (.inr q5);refine pop1_ok F hf (fun v st hv hs=>kindly_ok F (fun e=>⟨F,store_ok hf.loc hv ?_ ?_,by rw [store_len];exact hf.len,hs⟩))
  ·rw [hf.len];unfold Form.wide at ha1;split at ha1 <;> omega
  ·intro h2;rw [hf.len];unfold Form.wide at ha1;rw [if_pos (by omega)] at ha1;omega
 rw [if_neg q5]
 by_cases q6:i.op=6
 ·rw [if_pos q6];exact pop2_ok F hf (fun a b st ha hb hs=>act_ok (reckon_ok hm H ha.1.1 hb.1.1 (.inl rfl)) (fun v h' F' hv=>push_ok F' hf (by rw [hv.1];exact hs) (by rw [hv.1];exact hv.2.1)))
 rw [if_neg q6]
 by_cases q7:i.op=7
 ·rw [if_pos q7];exact pop2_ok F hf (fun a b st ha hb hs=>act_ok (reckon_ok hm H ha.1.1 hb.1.1 (.inr rfl)) (fun v h' F' hv=>push_ok F' hf (by rw [hv.1];exact hs) (by rw [hv.1];exact hv.2.1)))
 rw [if_neg q7]
 by_cases q8:i.op=8
 ·rw [if_pos q8];exact pop1_ok F hf (fun v st hv hs=>kindly_ok F (fun e=>push_ok F hf hs (int_ok' _ hv.1.1 2 (.inr rfl))))
 rw [if_neg q8]
 by_cases q9:i.op=9
 ·rw [if_pos q9];exact pop1_ok F hf (fun v st hv hs=>kindly_ok F (fun e=>push_ok F hf hs (int_ok' _ (wrap32_ok _) 1 (.inl rfl))))
 rw [if_neg q9]
 by_cases q10:i.op=10
 ·rw [if_pos q10];exact pop2_ok F hf (fun a b st ha hb hs=>kindly_ok F (fun e=>kindly_ok F (fun e=>push_ok F hf hs (int_ok' _ (cmp_okr _ _) 1 (.inl rfl)))))
 rw [if_neg q10]
 by_cases q11:i.op=11
 ·rw [if_pos q11];exact go _ _ _ F hf.stk
 rw [if_neg q11]
 by_cases q12:i.op=12
 ·rw [if_pos q12];exact pop1_ok F hf (fun v st hv hs=>kindly_ok F (fun e=>go _ _ _ F hs))
 rw [if_neg q12]
 by_cases q13:i.op=13
 ·rw [if_pos q13];exact pop1_ok F hf (fun v st hv hs=>kindly_ok F (fun e=>go _ _ _ F hs))
 rw [if_neg q13]
 by_cases q14:i.op=14
 ·rw [if_pos q14];exact act_ok (new_ok hm H (hi.cls (by omega))) (fun v h' F' hv=>push_ok F' hf (hf.stk.mono F'.2.1) hv.1)
 rw [if_neg q14]
 by_cases q15:i.op=15
 ·rw [if_pos q15];exact pop1_ok F hf (fun v st hv hs=>act_ok (get_ok hm H hv.1 (hi.cls (by omega)) (hi.fld (by omega))) (fun x h' F' hx=>push_ok F' hf (by rw [hx.1];exact hs) (by rw [hx.1];exact hx.2.1)))
 rw [if_neg q15]
 by_cases q16:i.op=16
 ·rw [if_pos q16];exact pop2_ok F hf (fun r v st hr hv hs=>kindly_ok F (fun e=>act_ok (put_ok hm H hr.1 hv) (fun _ h' F' _=>go _ _ _ F' (hs.mono F'.2.1))))
 rw [if_neg q16]
 by_cases q17:i.op=17
 ·rw [if_pos q17];exact pop1_ok F hf (fun v st hv hs=>act_ok (cast_ok hm H) (fun _ h' F' _=>push_ok F' hf (hs.mono F'.2.1) (hv.mono F'.2.1)))
 rw [if_neg q17]
 by_cases q18:i.op=18
 ·rw [if_pos q18];exact pop1_ok F hf (fun v st hv hs=>act_ok (isV_ok H) (fun x h' F' hx=>push_ok F' hf (hs.mono F'.2.1) (by rw [hx.1];exact hx.2.1)))
 rw [if_neg q18]
 by_cases q19:i.op=19
 ·rw [if_pos q19];unfold s19
  split
  ·exact F
  ·rename_i hn
   have:=hi.meth q19
   exact ⟨F,⟨hf.loc,hf.len,fun x hx=>hf.stk x (List.mem_of_mem_take hx)⟩,fun x hx=>hf.stk x (List.mem_of_mem_drop hx),by simp;omega,by omega⟩
 rw [if_neg q19]
 by_cases q20:i.op=20
 ·rw [if_pos q20];unfold s20
  by_cases hr:m.ret.kind=0
  ·rw [if_pos hr];exact ⟨F,by rw [RetOk,if_pos hr]⟩
  ·rw [if_neg hr];refine pop1_ok F hf (fun v st hv hs=>?_)
   split
   ·exact ⟨F,by rw [RetOk,if_neg hr];exact hv⟩
   ·exact F
 rw [if_neg q20]
 by_cases q21:i.op=21
 ·rw [if_pos q21];exact pop1_ok F hf (fun v st hv hs=>act_ok (R:=fun _ _=>True) (throw_ok hm H hv.1) (fun _ h' F' _=>F'))
 rw [if_neg q21]
 by_cases q22:i.op=22
 ·rw [if_pos q22];exact pop1_ok F hf (fun v st hv hs=>go _ _ _ F hs)
 rw [if_neg q22]
 by_cases q23:i.op=23
 ·rw [if_pos q23];refine pop1_ok F hf (fun v st hv hs=>?_)
  split
  ·refine go _ _ _ F ?_
   have:=(hs.snoc hv).snoc hv
   simpa using this
  ·exact F
 rw [if_neg q23]
 by_cases q24:i.op=24
 ·rw [if_pos q24];refine pop1_ok F hf (fun v st hv hs=>?_);unfold emit
  split
  ·exact F
  ·refine go _ _ { h with out:=h.out++[v.n] } ⟨⟨H.many,H.obs,fun x hx=>?_,?_,H.used,H.steps⟩,Nat.le_refl _,rfl⟩ hs
   ·rcases List.mem_append.1 hx with hx | hx
    ·exact H.out x hx
    ·have:x=v.n:=by simpa using hx
     rw [this];exact hv.1.1
   ·simp only [List.length_append,List.length_cons,List.length_nil];omega
 rw [if_neg q24]
 by_cases q25:i.op=25
 ·rw [if_pos q25];unfold s25 takeIn
  split
  ·exact F
  ·rename_i hu
   refine push_ok (h:={ h with used:=h.used+1 }) ⟨⟨H.many,H.obs,H.out,H.outs,by simp only;omega,H.steps⟩,Nat.le_refl _,rfl⟩ hf hf.stk (int_ok' _ ?_ 2 (.inr rfl))
   rw [List.getD_eq_getElem?_getD,List.getElem?_eq_getElem (by omega)]
   exact hin _ (List.getElem_mem _)
 rw [if_neg q25];exact F
end
theorem width_le (v:Vl):1≤width v∧width v≤2:=by unfold width;split <;> omega
theorem stores_ok {n:Nat}:∀ (args:List Vl) (l:List Vl) (a:Nat),SlotsOk n l→(∀ v∈args,VtOk n v)→a+size args≤l.length→SlotsOk n (stores l a args)∧(stores l a args).length=l.length:=by
 intro args
 induction args with
 | nil=>intro l a h _ _;exact ⟨h,rfl⟩
 | cons v vs ih =>
  intro l a h hv hs
  simp only [size] at hs;have hw:=width_le v;have h1:=store_ok h (a:=a) (hv v (by simp)) (by omega) (fun h2=>by unfold width at hs;rw [if_pos h2] at hs;omega)
  have h2:=ih (store l a v) (a+width v) h1 (fun x hx=>hv x (by simp [hx])) (by rw [store_len];omega)
  exact ⟨h2.1,h2.2.trans (store_len _ _ _)⟩
theorem size_slots:∀ (args:List Vl) (ts:List Ty),args.length=ts.length→(∀ i (h:i < args.length),args[i].kind=(ts.getD i ⟨0,0⟩).kind)→size args=Form.slots ts:=by
 intro args
 induction args with
 | nil=>intro ts h _;rw [List.eq_nil_of_length_eq_zero (l:=ts) (by simpa using h.symm)];rfl
 | cons v vs ih =>
  intro ts h hk
  cases ts with
  | nil=>simp at h
  | cons t ts =>
   have h0:=hk 0 (by simp)
   simp only [List.getElem_cons_zero,List.getD_cons_zero] at h0;rw [size,Form.slots,ih ts (by simpa using h) (fun i hi=>by have:=hk (i+1) (by simp;omega);simp only [List.getElem_cons_succ,List.getD_cons_succ] at this;exact this),width,h0]
theorem sm_ok {f:Fi}{input:List Int}{fuel:Nat}(S:FiS f) (hn:∀ m∈f.methods,∀ i∈m.code,Ok i.n) (hin:∀ x∈input,Ok x):MachOk SM SfOk f input fuel:=by
 refine ⟨S.may,fun m hm i hi fr h H ho hf=>sstep_ok S.may (S.mes m hm) ((S.mes m hm).ins i hi) (hn m hm i hi) hin H ho hf,fun m hm n args hv hl hk=>?_,fun m hm callee n v fr fr' hf hv hr=>?_,fun m hm n o a fr fr' ho hn hf hc=>?_,fun m n n' fr hn hf=>hf.mono hn⟩
 ·have M:=S.mes m hm;have hsz:=size_slots args m.params hl hk
  have:=stores_ok args (List.replicate m.locals.toNat Vl.nil) 0 (fresh_ok n _) hv (by simp;have:=M.locals.1;omega)
  exact ⟨this.1,by rw [show (SM.enter m args).loc.length=_ from this.2];simp,StkOk.nil n⟩
 ·change sresume m callee fr v=some fr' at hr
  unfold sresume at hr
  split at hr
  ·injection hr with hr;subst hr;exact ⟨hf.loc,hf.len,hf.stk⟩
  ·rename_i h0
   split at hr
   ·injection hr with hr;subst hr
    rw [RetOk,if_neg h0] at hv;exact ⟨hf.loc,hf.len,hf.stk.snoc hv⟩
   ·cases hr
 ·change scaught m fr a o=some fr' at hc
  unfold scaught at hc
  split at hc
  ·injection hc with hc;subst hc
   refine ⟨hf.loc,hf.len,fun x hx=>?_⟩
   have:x=⟨3,o⟩:=by simpa [on] using hx
   subst this;exact ⟨⟨by simp [Ok];omega,by simp,by simp,by simp;omega⟩,by simp,by simp⟩
  ·cases hc
structure MeR (f:Fi) (m:Me):Prop where
 ins:∀ i∈m.code,Rform.ins f m i=true
 regs:1≤m.regs∧(Form.slots m.params:Int)≤m.regs∧m.regs < 91
 params:m.params.length≤4∧∀ t∈m.params,Hier.ty f.classes.length t=true
 ret:Form.ret f.classes.length m.ret=true
 code:1≤m.code.length∧m.code.length≤2400
 hds:m.handlers.length≤8∧∀ x∈m.handlers,Form.hd f.classes.length m.code.length x=true
structure FiR (f:Fi):Prop where
 may:Hier.may f.classes=true
 many:1≤f.methods.length∧f.methods.length≤8
 mes:∀ m∈f.methods,MeR f m
theorem fiR_of {f:Fi}(h:Rform.rmay f=true):FiR f:=by
 simp only [Rform.rmay,Bool.and_eq_true,rng_iff,List.all_eq_true] at h;obtain ⟨⟨h1,h2⟩,h3⟩:=h;refine ⟨h1,by omega,fun m hm=>?_⟩
 have:=h3 m hm
 simp only [Rform.rme,Bool.and_eq_true,rng_iff,List.all_eq_true,decide_eq_true_eq] at this;obtain ⟨⟨⟨⟨h4,_⟩,_⟩,h6⟩,h7⟩:=this;obtain ⟨p1,p2,p3,p4,p5,p6⟩:=head_iff h4;exact ⟨h7,by omega,⟨p3,p1⟩,p4,by omega,p6,p2⟩
structure RfOk (m:Me) (n:Nat) (fr:Rf):Prop where
 regs:SlotsOk n fr.regs
 len:fr.regs.length=m.regs.toNat
 given:VlOk n fr.given
 got:VlOk n fr.got
theorem RfOk.mono {m:Me}{n n':Nat}{fr:Rf}(h:RfOk m n fr) (hn:n≤n'):RfOk m n' fr:=⟨h.regs.mono hn,h.len,h.given.mono hn,h.got.mono hn⟩
theorem reg_iff {regs a kind:Int}(h:Rform.reg regs a kind=true):0≤a∧a.toNat < regs.toNat∧(kind=2→a.toNat+1 < regs.toNat):=by
 have:=rng_iff.1 h
 unfold Form.wide at this;refine ⟨this.1,?_,fun e=>?_⟩
 ·split at this <;> omega
 ·rw [if_pos e] at this;omega
section
variable {f:Fi}{input:List Int}{fuel:Nat}{m:Me}{i:Ins}{fr:Rf}{h0 h:Hp}
theorem rset_ok (F:From f.classes input fuel h0 h) (hf:RfOk m h0.objs.length fr){a kind:Int}(ha:Rform.reg m.regs a kind=true){v:Vl}(hv:VtOk h.objs.length v) (hk:v.kind=2→kind=2):ActOk RfOk f input fuel m h0 (rset fr a v h):=by
 have hf:=hf.mono F.2.1;obtain ⟨a0,a1,a2⟩:=reg_iff ha;exact ⟨F,store_ok hf.regs hv (by rw [hf.len];exact a1) (fun e=>by rw [hf.len];exact a2 (hk e)),by rw [store_len];exact hf.len,nil_ok _,nil_ok _⟩
theorem rgo_ok (F:From f.classes input fuel h0 h) (hf:RfOk m h0.objs.length fr) (a:Nat):ActOk RfOk f input fuel m h0 (rgo fr a h):=by
 have hf:=hf.mono F.2.1;exact ⟨F,hf.regs,hf.len,nil_ok _,nil_ok _⟩
theorem rkind_ok (F:From f.classes input fuel h0 h){v:Vl}{kind:Int}{k:Act Rf}(hk:v.kind=kind→ActOk RfOk f input fuel m h0 k):ActOk RfOk f input fuel m h0 (rkind v kind h k):=by
 unfold rkind
 split
 ·exact hk ‹_›
 ·exact F
theorem rd_ok {n:Nat}(hf:RfOk m n fr) (a:Int):VlOk n (rd fr a):=hf.regs.vals _
theorem rargs_ok {n:Nat}(hf:RfOk m n fr):∀ (ts:List Ty) (xs:List Int) (args:List Vl),(∀ t∈ts,1≤t.kind∧t.kind≤3)→rargs fr xs ts=some args→(∀ v∈args,VtOk n v)∧args.length=ts.length:=by
 intro ts
 induction ts with
 | nil=>intro xs args _ h;cases xs <;> (simp only [rargs] at h;injection h with h;subst h;exact ⟨fun v hv=>absurd hv (by simp),rfl⟩)
 | cons t ts ih =>
  intro xs args hk h
  cases xs with
  | nil=>simp [rargs] at h
  | cons a xs =>
   simp only [rargs] at h
   split at h
   ·rename_i he
    cases hr:rargs fr xs ts with
    | none=>rw [hr] at h;cases h
    | some l =>
     rw [hr] at h;injection h with h;subst h
     obtain ⟨h1,h2⟩:=ih xs l (fun x hx=>hk x (by simp [hx])) hr
     have:=hk t (by simp)
     refine ⟨fun v hv=>?_,by simp [h2]⟩
     rcases List.mem_cons.1 hv with hv | hv
     ·subst hv;exact ⟨rd_ok hf a,by omega,by omega⟩
     ·exact h1 v hv
   ·cases h
theorem ty_kind {n:Int}{t:Ty}(h:Hier.ty n t=true):1≤t.kind∧t.kind≤3:=by
 unfold Hier.ty at h
 split at h
 ·omega
 ·split at h
  ·omega
  ·cases h
theorem rstep_ok (S:FiR f) (M:MeR f m) (hi:Rform.ins f m i=true) (hio:Ok i.n) (hin:∀ x∈input,Ok x) (H:HpOk f.classes input fuel h) (ho:h.out.length < h.steps) (hf:RfOk m h.objs.length fr):ActOk RfOk f input fuel m h (rstep f input m i fr h):=by
 have hm:=S.may;have F:=From.refl H;simp only [Rform.ins,Bool.and_eq_true] at hi;obtain ⟨⟨_,hb⟩,_⟩:=hi;unfold rstep
 by_cases q:i.op=1
 ·rw [if_pos q];simp [Rform.body,q] at hb;exact rset_ok F hf hb.1.1 (int_ok' _ hio 1 (.inl rfl)) (by simp)
 rw [if_neg q];clear q
 by_cases q:i.op=2
 ·rw [if_pos q];simp [Rform.body,q] at hb;exact rset_ok F hf hb.1.1 (int_ok' _ hio 2 (.inr rfl)) (by simp)
 rw [if_neg q];clear q
 by_cases q:i.op=3
 ·rw [if_pos q];simp [Rform.body,q] at hb;exact rset_ok F hf hb.1.1 (null_ok _) (by simp)
 rw [if_neg q];clear q
 by_cases q:i.op=4
 ·rw [if_pos q];simp [Rform.body,q,rng_iff] at hb;exact rkind_ok F (fun e=>rset_ok F hf hb.2.1 ⟨rd_ok hf _,by omega,by omega⟩ (by omega))
 rw [if_neg q];clear q
 by_cases q:i.op=5
 ·rw [if_pos q];simp [Rform.body,q] at hb;exact act_ok (reckon_ok hm H (rd_ok hf _).1 (rd_ok hf _).1 (.inl rfl)) (fun v h' F' hv=>rset_ok (kind:=1) F' hf hb.1 (by rw [hv.1];exact hv.2.1) (fun e=>by have:=hv.2.2;omega))
 rw [if_neg q];clear q
 by_cases q:i.op=6
 ·rw [if_pos q];simp [Rform.body,q] at hb;exact act_ok (reckon_ok hm H (rd_ok hf _).1 (rd_ok hf _).1 (.inr rfl)) (fun v h' F' hv=>rset_ok (kind:=2) F' hf hb.1 (by rw [hv.1];exact hv.2.1) (fun e=>rfl))
 rw [if_neg q];clear q
 by_cases q:i.op=7
 ·rw [if_pos q];simp [Rform.body,q] at hb;exact rkind_ok F (fun e=>rset_ok F hf hb.1.1 (int_ok' _ (rd_ok hf _).1 2 (.inr rfl)) (fun _=>rfl))
 rw [if_neg q];clear q
 by_cases q:i.op=8
 ·rw [if_pos q];simp [Rform.body,q] at hb;exact rkind_ok F (fun e=>rset_ok F hf hb.1.1 (int_ok' _ (wrap32_ok _) 1 (.inl rfl)) (by simp))
 rw [if_neg q];clear q
 by_cases q:i.op=9
 ·rw [if_pos q];simp [Rform.body,q] at hb;exact rkind_ok F (fun e=>rkind_ok F (fun e=>rset_ok F hf hb.1 (int_ok' _ (cmp_okr _ _) 1 (.inl rfl)) (by simp)))
 rw [if_neg q];clear q
 by_cases q:i.op=10
 ·rw [if_pos q];exact rgo_ok F hf _
 rw [if_neg q];clear q
 by_cases q:i.op=11
 ·rw [if_pos q];exact rkind_ok F (fun e=>rgo_ok F hf _)
 rw [if_neg q];clear q
 by_cases q:i.op=12
 ·rw [if_pos q];exact rkind_ok F (fun e=>rgo_ok F hf _)
 rw [if_neg q];clear q
 by_cases q:i.op=13
 ·rw [if_pos q];simp [Rform.body,q,rng_iff] at hb;exact act_ok (new_ok hm H (by omega)) (fun v h' F' hv=>rset_ok F' hf hb.1.1 hv.1 (by omega))
 rw [if_neg q];clear q
 by_cases q:i.op=14
 ·rw [if_pos q];simp [Rform.body,q,rng_iff] at hb;refine rkind_ok F (fun e=>act_ok (get_ok hm H (rd_ok hf _) (c:=i.c) (k:=i.n) (by omega) (by have:=hb.1.1.2;unfold Form.nf at this;omega)) (fun v h' F' hv=>rset_ok F' hf hb.1.2 (by rw [hv.1];exact hv.2.1) (fun e=>?_)))
  rw [← e,hv.2.2];rfl
 rw [if_neg q];clear q
 by_cases q:i.op=15
 ·rw [if_pos q];simp [Rform.body,q,rng_iff] at hb;have hc:0≤i.c∧i.c < f.classes.length:=by omega
  have hn:0≤i.n∧i.n < Form.nf f.classes i.c:=by omega
  have hfa:=may_fields hm (c:=i.c.toNat) (by omega)
  have hk:1≤(ftype f.classes i.c i.n).kind∧(ftype f.classes i.c i.n).kind≤3:=by
   unfold ftype;unfold Form.nf at hn;rw [List.getD_eq_getElem?_getD,List.getElem?_eq_getElem (by omega)]
   exact ty_kind (List.all_eq_true.1 hfa _ (List.getElem_mem _))
  exact rkind_ok F (fun e=>rkind_ok F (fun e=>act_ok (put_ok hm H (rd_ok hf _) ⟨rd_ok hf _,by omega,by omega⟩) (fun _ h' F' _=>rgo_ok F' hf _)))
 rw [if_neg q];clear q
 by_cases q:i.op=16
 ·rw [if_pos q];exact rkind_ok F (fun e=>act_ok (cast_ok hm H) (fun _ h' F' _=>rgo_ok F' hf _))
 rw [if_neg q];clear q
 by_cases q:i.op=17
 ·rw [if_pos q];simp [Rform.body,q] at hb;exact rkind_ok F (fun e=>act_ok (isV_ok H) (fun x h' F' hx=>rset_ok F' hf hb.1.1 (by rw [hx.1];exact hx.2.1) (fun e=>by have:=hx.2.2;omega)))
 rw [if_neg q];clear q
 by_cases q:i.op=18
 ·rw [if_pos q];simp [Rform.body,q,rng_iff] at hb;have ha:i.a.toNat < f.methods.length:=by omega
  unfold r18
  split
  ·exact F
  ·rename_i args hr
   obtain ⟨h1,h2⟩:=rargs_ok hf _ _ _ (fun t ht=>ty_kind ((S.mes _ (meAt_mem ha)).params.2 t ht)) hr;exact ⟨F,⟨hf.regs,hf.len,nil_ok _,nil_ok _⟩,h1,h2,ha⟩
 rw [if_neg q];clear q
 by_cases q:i.op=19
 ·rw [if_pos q];simp [Rform.body,q,rng_iff] at hb;exact rkind_ok F (fun e=>rset_ok F hf hb.1.2 ⟨hf.given,by omega,by omega⟩ (by omega))
 rw [if_neg q];clear q
 by_cases q:i.op=20
 ·rw [if_pos q];unfold r20
  by_cases hr:m.ret.kind=0
  ·rw [if_pos hr];exact ⟨F,by rw [RetOk,if_pos hr]⟩
  ·rw [if_neg hr]
   have hk:1≤m.ret.kind∧m.ret.kind≤3:=by
    have:=M.ret
    unfold Form.ret at this;rw [Bool.or_eq_true,decide_eq_true_eq] at this
    rcases this with h | h
    ·omega
    ·exact ty_kind h
   refine rkind_ok F (fun e=>?_)
   split
   ·exact ⟨F,by rw [RetOk,if_neg hr];exact ⟨rd_ok hf _,by omega,by omega⟩⟩
   ·exact F
 rw [if_neg q];clear q
 by_cases q:i.op=21
 ·rw [if_pos q];exact rkind_ok F (fun e=>act_ok (R:=fun _ _=>True) (throw_ok hm H (rd_ok hf _)) (fun _ h' F' _=>F'))
 rw [if_neg q];clear q
 by_cases q:i.op=22
 ·rw [if_pos q];simp [Rform.body,q] at hb;exact rkind_ok F (fun e=>rset_ok F hf hb.1.1 ⟨hf.got,by omega,by omega⟩ (by omega))
 rw [if_neg q];clear q
 by_cases q:i.op=23
 ·rw [if_pos q];refine rkind_ok F (fun e=>?_);unfold emit
  split
  ·exact F
  ·refine rgo_ok (h:={ h with out:=h.out++[(rd fr i.a).n] }) ⟨⟨H.many,H.obs,fun x hx=>?_,?_,H.used,H.steps⟩,Nat.le_refl _,rfl⟩ hf _
   ·rcases List.mem_append.1 hx with hx | hx
    ·exact H.out x hx
    ·have:x=(rd fr i.a).n:=by simpa using hx
     rw [this];exact (rd_ok hf _).1
   ·simp only [List.length_append,List.length_cons,List.length_nil];omega
 rw [if_neg q];clear q
 by_cases q:i.op=24
 ·rw [if_pos q];simp [Rform.body,q] at hb;unfold r24 takeIn
  split
  ·exact F
  ·rename_i hu
   refine rset_ok (h:={ h with used:=h.used+1 }) ⟨⟨H.many,H.obs,H.out,H.outs,by simp only;omega,H.steps⟩,Nat.le_refl _,rfl⟩ hf hb.1.1 (int_ok' _ ?_ 2 (.inr rfl)) (fun _=>rfl)
   rw [List.getD_eq_getElem?_getD,List.getElem?_eq_getElem (by omega)]
   exact hin _ (List.getElem_mem _)
 rw [if_neg q];clear q;exact F
end
theorem rm_ok {f:Fi}{input:List Int}{fuel:Nat}(S:FiR f) (hn:∀ m∈f.methods,∀ i∈m.code,Ok i.n) (hin:∀ x∈input,Ok x):MachOk RM RfOk f input fuel:=by
 refine ⟨S.may,fun m hm i hi fr h H ho hf=>rstep_ok S (S.mes m hm) ((S.mes m hm).ins i hi) (hn m hm i hi) hin H ho hf,fun m hm n args hv hl hk=>?_,fun m hm callee n v fr fr' hf hv hr=>?_,fun m hm n o a fr fr' ho hn hf hc=>?_,fun m n n' fr hn hf=>hf.mono hn⟩
 ·have M:=S.mes m hm;have hsz:=size_slots args m.params hl hk
  have:=stores_ok args (List.replicate m.regs.toNat Vl.nil) 0 (fresh_ok n _) hv (by simp;have:=M.regs.2.1;omega)
  exact ⟨this.1,by rw [show (RM.enter m args).regs.length=_ from this.2];simp,nil_ok _,nil_ok _⟩
 ·change rresume m callee fr v=some fr' at hr
  unfold rresume at hr;injection hr with hr;subst hr
  refine ⟨hf.regs,hf.len,?_,nil_ok _⟩;unfold RetOk at hv
  split at hv
  ·subst hv;exact nil_ok _
  ·exact hv.1
 ·change rcaught m fr a o=some fr' at hc
  unfold rcaught at hc;injection hc with hc;subst hc
  exact ⟨hf.regs,hf.len,nil_ok _,⟨by simp [Ok];omega,by simp,by simp,by simp;omega⟩⟩
end Run
namespace Hpw
open Num Rd D Run Mem
def int (n:Int):Value:=.int .i64 n
def vcell (v:Vl):List Value:=[.int .i64 v.kind,.int .i64 v.n]
def vcells (l:List Vl):List Value:=l.flatMap vcell
structure Ev where
 f:Fi
 input:List Int
 fuel:Nat
 hb:Nat
 B:Nat
 vc:Value
 vm:Value
 vi:Value
def nilOb:Ob:=⟨0,[]⟩
theorem vcells_len (l:List Vl):(vcells l).length=l.length*2:=by
 induction l with
 | nil=>rfl
 | cons v l ih=>simp only [vcells,List.flatMap_cons,List.length_append,List.length_cons] at ih ⊢;rw [ih];simp [vcell];omega
theorem vcells_get:∀ (l:List Vl) (i:Nat),i < l.length→(vcells l)[i*2]? = some (.int .i64 (l.getD i Vl.nil).kind)∧(vcells l)[i*2+1]? = some (.int .i64 (l.getD i Vl.nil).n):=by
 intro l
 induction l with
 | nil=>intro i h;simp at h
 | cons v l ih =>
  intro i h
  cases i with
  | zero=>simp [vcells,vcell]
  | succ i =>
   have:=ih i (by simpa using h)
   rw [show (i+1)*2+1=(i*2+1)+2 by omega,show (i+1)*2=i*2+2 by omega]
   simpa [vcells,vcell] using this
theorem vcells_append (l m:List Vl):vcells (l++m)=vcells l++vcells m:=by simp [vcells]
theorem vcells_set:∀ (l:List Vl) (i:Nat) (v:Vl),vcells (l.set i v)=((vcells l).set (i*2) (.int .i64 v.kind)).set (i*2+1) (.int .i64 v.n):=by
 intro l
 induction l with
 | nil=>intro i v;simp [vcells]
 | cons u l ih =>
  intro i v
  cases i with
  | zero=>simp [vcells,vcell]
  | succ i =>
   have:=ih i v
   rw [show (i+1)*2+1=(i*2+1)+2 by omega,show (i+1)*2=i*2+2 by omega]
   simpa [vcells,vcell] using this
end Hpw
namespace Rhw
open Num Rd D Run Mem HierW Hpw
def hcell (x:(Int × Int) × Vl):List Value:=[.int .i64 x.1.1,.int .i64 x.1.2,.int .i64 x.2.kind,.int .i64 x.2.n]
def hcells (l:List ((Int × Int) × Vl)):List Value:=l.flatMap hcell
structure RL where
 vo:Value
 vb:Value
 hvs:List Value
def rows (L:RL):List Nat:=L.vo.ownBlock.toList++(L.vb.ownBlock.toList++L.hvs.flatMap fun v=>v.ownBlock.toList)
def own (E:Ev) (L:RL) (k:Nat):Prop:=k=E.hb∨k∈rows L
def rocells:List Ob→List Value→List Value
 | o :: os,v :: vs=>.int .i64 o.cls :: v :: rocells os vs
 | _,_=>[]
structure Sv where
 fin:Int
 over:Bool
 thrown:Int
def Sv.run:Sv:=⟨0,false,-1⟩
def Sv.thr (o:Nat):Sv:=⟨0,false,o⟩
def Sv.ends (e:Int):Sv:=⟨e,true,-1⟩
def cellsR (E:Ev) (L:RL) (h:Hp) (d:Nat) (s:Sv):List Value:=[E.vc,E.vm,L.vb,E.vi,.int .i64 d,.int .i64 E.fuel,.int .i64 s.fin,.int .i64 0,.int .i64 0,L.vo,.int .i64 h.used,.int .i64 h.steps,.bool s.over,.int .i64 s.thrown]
structure RB (E:Ev) (w:World) (L:RL) (h:Hp):Prop where
 cls:Sl 2 ECls w E.B E.vc E.f.classes
 mes:Sl 8 EMe w E.B E.vm E.f.methods
 inp:Sl 1 EInt w E.B E.vi E.input
 out:w.ownsRow E.B 2 1 L.vo h.out.length (h.out.map (.int .i64 ·))
 objs:w.ownsRow E.B 179 2 L.vb h.objs.length (rocells h.objs L.hvs)
 many:L.hvs.length=h.objs.length
 held:∀ i (hi:i < L.hvs.length),w.ownsRow E.B 284 4 L.hvs[i] (h.objs.getD i nilOb).held.length (hcells (h.objs.getD i nilOb).held)
 base:E.B≤E.hb∧E.hb < w.heap.size
 nodup:(E.hb :: rows L).Nodup
structure RH (E:Ev) (w:World) (L:RL) (h:Hp) (d:Nat) (s:Sv):Prop where
 rows:RB E w L h
 cells:Blk w E.hb (cellsR E L h d s)
theorem mem_own {v:Value}{k:Nat}:k∈v.ownBlock.toList↔v.ownBlock=some k:=by cases v.ownBlock <;> simp [eq_comm]
theorem mem_rows {L:RL}{k:Nat}:k∈Rhw.rows L↔L.vo.ownBlock=some k∨L.vb.ownBlock=some k∨∃ v∈L.hvs,v.ownBlock=some k:=by
 unfold Rhw.rows;simp only [List.mem_append,mem_own,List.mem_flatMap]
section
variable {E:Ev}{w w':World}{L:RL}{h:Hp}{d:Nat}{s:Sv}
theorem RB.lo (H:RB E w L h){k:Nat}(hk:k∈Rhw.rows L):E.B≤k∧k < w.heap.size:=by
 rcases mem_rows.1 hk with e | e | ⟨v,hv,e⟩
 ·exact World.ownsRow.lt H.out k e
 ·exact World.ownsRow.lt H.objs k e
 ·obtain ⟨i,hi,rfl⟩:=List.getElem_of_mem hv;exact World.ownsRow.lt (H.held i hi) k e
theorem own_lo (H:RB E w L h){k:Nat}(hk:own E L k):E.B≤k∧k < w.heap.size:=by
 rcases hk with e | e
 ·subst e;exact H.base
 ·exact H.lo e
theorem RB.hb (H:RB E w L h):E.hb∉Rhw.rows L:=(List.nodup_cons.1 H.nodup).1
theorem RB.keep (H:RB E w L h){X:Nat→Prop}(hk:Kp X w w') (hX:∀ k,X k→E.B≤k∧k∉Rhw.rows L):RB E w' L h:=by
 have hB:E.B≤w.heap.size:=Nat.le_trans H.base.1 (Nat.le_of_lt H.base.2);have hlo:∀ k,X k→E.B≤k:=fun k h=>(hX k h).1;have hno:∀ k,X k→k∉Rhw.rows L:=fun k h=>(hX k h).2;refine ⟨hk.sl mCls H.cls hB hlo,hk.sl mMe H.mes hB hlo,hk.sl mInt H.inp hB hlo,row_keep H.out hk (fun g hg h=>hno g h (mem_rows.2 (.inl hg))),row_keep H.objs hk (fun g hg h=>hno g h (mem_rows.2 (.inr (.inl hg)))),H.many,fun i hi=>row_keep (H.held i hi) hk (fun g hg h=>hno g h (mem_rows.2 (.inr (.inr ⟨_,List.getElem_mem hi,hg⟩)))),⟨H.base.1,Nat.lt_of_lt_of_le H.base.2 hk.size⟩,H.nodup⟩
theorem RH.keep (H:RH E w L h d s){X:Nat→Prop}(hk:Kp X w w') (hX:∀ k,X k→E.B≤k∧¬ own E L k):RH E w' L h d s :=
 ⟨H.rows.keep hk (fun k hx=>⟨(hX k hx).1,fun hm=>(hX k hx).2 (.inr hm)⟩),H.cells.next hk (fun hx=>(hX _ hx).2 (.inl rfl))⟩
theorem RH.below (H:RH E w L h d s) (hb:Below w.heap.size w w'):RH E w' L h d s :=
 H.keep (X:=fun _=>False) (Kp.of_below hb (Nat.le_refl _)) (fun _ h=>h.elim)
theorem RH.fz (H:RH E w L h d s) (k:Nat) (hk:k < 14):w.frozen? ⟨E.hb,k,none⟩=false:=(H.cells k (by simpa [cellsR] using hk)).2
theorem RH.c0 (H:RH E w L h d s):w.cell? ⟨E.hb,0,none⟩=some E.vc:=(H.cells 0 (by simp [cellsR])).1
theorem RH.c1 (H:RH E w L h d s):w.cell? ⟨E.hb,1,none⟩=some E.vm:=(H.cells 1 (by simp [cellsR])).1
theorem RH.c2 (H:RH E w L h d s):w.cell? ⟨E.hb,2,none⟩=some L.vb:=(H.cells 2 (by simp [cellsR])).1
theorem RH.c3 (H:RH E w L h d s):w.cell? ⟨E.hb,3,none⟩=some E.vi:=(H.cells 3 (by simp [cellsR])).1
theorem RH.c4 (H:RH E w L h d s):w.cell? ⟨E.hb,4,none⟩=some (.int .i64 d):=(H.cells 4 (by simp [cellsR])).1
theorem RH.c5 (H:RH E w L h d s):w.cell? ⟨E.hb,5,none⟩=some (.int .i64 E.fuel):=(H.cells 5 (by simp [cellsR])).1
theorem RH.c6 (H:RH E w L h d s):w.cell? ⟨E.hb,6,none⟩=some (.int .i64 s.fin):=(H.cells 6 (by simp [cellsR])).1
theorem RH.c9 (H:RH E w L h d s):w.cell? ⟨E.hb,9,none⟩=some L.vo:=(H.cells 9 (by simp [cellsR])).1
theorem RH.c10 (H:RH E w L h d s):w.cell? ⟨E.hb,10,none⟩=some (.int .i64 h.used):=(H.cells 10 (by simp [cellsR])).1
theorem RH.c11 (H:RH E w L h d s):w.cell? ⟨E.hb,11,none⟩=some (.int .i64 h.steps):=(H.cells 11 (by simp [cellsR])).1
theorem RH.c12 (H:RH E w L h d s):w.cell? ⟨E.hb,12,none⟩=some (.bool s.over):=(H.cells 12 (by simp [cellsR])).1
theorem RH.c13 (H:RH E w L h d s):w.cell? ⟨E.hb,13,none⟩=some (.int .i64 s.thrown):=(H.cells 13 (by simp [cellsR])).1
theorem RH.set (H:RH E w L h d s) (k:Nat) (hk:k < 14) (x:Value){h':Hp}{d':Nat}{s':Sv}(h1:h'.objs=h.objs) (h2:h'.out=h.out) (e:(cellsR E L h d s).set k x=cellsR E L h' d' s'):RH E (w.setCell ⟨E.hb,k,none⟩ x) L h' d' s':=by
 have hK:Kp (fun k=>k=E.hb) w (w.setCell ⟨E.hb,k,none⟩ x):=Kp.setCell (Kp.refl (fun k=>k=E.hb) w) (p:=⟨E.hb,k,none⟩) (.inl rfl) x;have R:=H.rows.keep hK (fun j hj=>by subst hj;exact ⟨H.rows.base.1,H.rows.hb⟩)
 refine ⟨⟨R.cls,R.mes,R.inp,by rw [h2];exact R.out,by rw [h1];exact R.objs,by rw [h1];exact R.many,by rw [h1];exact R.held,R.base,R.nodup⟩,?_⟩
 rw [← e];exact H.cells.set k (by simpa [cellsR] using hk) x
theorem kp_hb (E:Ev) (L:RL) (w:World) (k:Nat) (x:Value):Kp (own E L) w (w.setCell ⟨E.hb,k,none⟩ x):=Kp.setCell (Kp.refl (own E L) w) (p:=⟨E.hb,k,none⟩) (.inl (.inl rfl)) x
end
end Rhw
namespace Rhw
open Num Rd D Run Mem HierW Hpw
section
variable {E:Ev}{L:RL}{h:Hp}{d:Nat}{s:Sv}{w:World}
def endW (E:Ev) (w:World) (e:Int):World:=(w.setCell ⟨E.hb,12,none⟩ (.bool true)).setCell ⟨E.hb,6,none⟩ (.int .i64 e)
theorem endW_is (H:RH E w L h d s) (ht:s.thrown = -1) (e:Int):RH E (endW E w e) L h d (Sv.ends e)∧Kp (own E L) w (endW E w e):=by
 have H1:RH E (w.setCell ⟨E.hb,12,none⟩ (.bool true)) L h d ⟨s.fin,true,s.thrown⟩:=H.set 12 (by decide) _ rfl rfl rfl
 have H2:RH E (endW E w e) L h d (Sv.ends e):=H1.set 6 (by decide) (.int .i64 e) rfl rfl (by simp [cellsR,Sv.ends,ht])
 exact ⟨H2,(kp_hb E L w 12 _).trans (kp_hb E L _ 6 _) (fun y hy=>.inl hy)⟩
theorem endR (H:RH E w L h d s) (ho:s.over=false) (e:Int):Calls Try.prog 152 #[.pointer (some ⟨E.hb,0,none⟩),.int .i64 e] w fun r w'=>r=.returned (.tuple #[])∧(w.setCell ⟨E.hb,12,none⟩ (.bool true)).setCell ⟨E.hb,6,none⟩ (.int .i64 e)=w':=by
 have c12:=H.c12;have c6:=H.c6;have f12:=H.fz 12 (by decide)
 have f6:=H.fz 6 (by decide)
 rw [ho] at c12;clear H
 go_enter Try.func152,Try.ntmps152
 go_wp2
 go_end0
 exact ⟨rfl,rfl⟩
theorem endO (H:RH E w L h d s) (ho:s.over=true) (e:Int):Calls Try.prog 152 #[.pointer (some ⟨E.hb,0,none⟩),.int .i64 e] w fun r w'=>r=.returned (.tuple #[])∧w=w':=by
 have c12:=H.c12;rw [ho] at c12;clear H
 go_enter Try.func152,Try.ntmps152
 go_wp2
 go_end0
 exact ⟨rfl,rfl⟩
theorem stops (H:RH E w L h d s):Calls Try.prog 156 #[.pointer (some ⟨E.hb,0,none⟩)] w fun r w'=>r=.returned (.bool (s.over || decide (0≤s.thrown)))∧w=w':=by
 have c12:=H.c12;have c13:=H.c13;clear H;obtain ⟨fin,over,th⟩:=s
 cases over
 ·by_cases ht:0≤th
  ·have e1:decide (th≥0)=true:=by simpa using ht
   go_enter Try.func156,Try.ntmps156
   go_wp2
   go_ret;exact ⟨ret_bool (by simp [ht]),rfl⟩
  ·have e1:decide (th≥0)=false:=by simpa using ht
   go_enter Try.func156,Try.ntmps156
   go_wp2
   go_ret;exact ⟨ret_bool (by simp [ht]),rfl⟩
 ·go_enter Try.func156,Try.ntmps156
  go_wp2
  go_ret;exact ⟨ret_bool rfl,rfl⟩
theorem mustT (H:RH E w L h d s) (ho:s.over=false):Calls Try.prog 104 #[.pointer (some ⟨E.hb,0,none⟩),.bool true] w fun r w'=>r=.returned (.bool true)∧w=w':=by
 have c12:=H.c12;rw [ho] at c12;clear H
 go_enter Try.func104,Try.ntmps104
 go_wp2
 go_ret;exact ⟨rfl,rfl⟩
theorem mustF (H:RH E w L h d s) (ho:s.over=false):Calls Try.prog 104 #[.pointer (some ⟨E.hb,0,none⟩),.bool false] w fun r w'=>r=.returned (.bool false)∧(w.setCell ⟨E.hb,12,none⟩ (.bool true)).setCell ⟨E.hb,6,none⟩ (.int .i64 6)=w':=by
 go_enter Try.func104,Try.ntmps104
 go_wp2_with (go_at_call 152;refine (endR H ho _).mono ?_;rintro e w1 ⟨rfl,rfl⟩)
 go_ret;exact ⟨rfl,rfl⟩
theorem mustO (H:RH E w L h d s) (ho:s.over=true) (b:Bool):Calls Try.prog 104 #[.pointer (some ⟨E.hb,0,none⟩),.bool b] w fun r w'=>r=.returned (.bool false)∧w=w':=by
 have c12:=H.c12;rw [ho] at c12
 cases b
 ·go_enter Try.func104,Try.ntmps104
  go_wp2_with (go_at_call 152;refine (endO H ho _).mono ?_;rintro e w1 ⟨rfl,rfl⟩)
  go_ret;exact ⟨rfl,rfl⟩
 ·go_enter Try.func104,Try.ntmps104
  go_wp2
  go_ret;exact ⟨rfl,rfl⟩
end
end Rhw
namespace Run
open D Num
def freshTo (l:List Cls) (cl:Int) (n:Nat):List ((Int × Int) × Vl):=(List.range n).flatMap fun (c:Nat)=>if Hier.is l cl c then fieldsOf c (Hier.at' l c).fields else []
theorem freshTo_all (l:List Cls) (cl:Int):freshTo l cl l.length=fresh l cl:=rfl
theorem freshTo_succ (l:List Cls) (cl:Int) (n:Nat):freshTo l cl (n+1)=freshTo l cl n++(if Hier.is l cl n then fieldsOf n (Hier.at' l n).fields else []):=by
 unfold freshTo;rw [List.range_succ,List.flatMap_append]
 simp
def fieldsTo (c:Nat) (l:List Ty) (n:Nat):List ((Int × Int) × Vl):=(List.range n).map fun (k:Nat)=>(((c:Int),(k:Int)),zero (l.getD k ⟨0,0⟩))
theorem fieldsTo_succ (c:Nat) (l:List Ty) (n:Nat):fieldsTo c l (n+1)=fieldsTo c l n++[(((c:Int),(n:Int)),zero (l.getD n ⟨0,0⟩))]:=by
 unfold fieldsTo;rw [List.range_succ,List.map_append]
 rfl
theorem fieldsTo_len (c:Nat) (l:List Ty) (n:Nat):(fieldsTo c l n).length=n:=by simp [fieldsTo]
theorem freshTo_len {l:List Cls}(hm:Hier.may l=true) (cl:Int):∀ n,n≤l.length→(freshTo l cl n).length≤6*n:=by
 intro n
 induction n with
 | zero=>intro _;exact Nat.le_refl _
 | succ n ih =>
  intro h
  rw [freshTo_succ,List.length_append]
  have:=ih (by omega)
  have h6:(Hier.at' l n).fields.length≤6:=by
   have:=((Hier.may_iff l).1 hm).2 n h
   rw [Hier.at_eq h];unfold Hier.cls at this;simp only [Bool.and_eq_true,decide_eq_true_eq] at this;exact this.1.2
  split
  ·simp only [fieldsOf,List.length_map,List.length_range];omega
  ·simp;omega
def idx (l:List ((Int × Int) × Vl)) (k:Int × Int):Nat:=l.findIdx (fun x=>decide (x.1=k))
def at_ (l:List ((Int × Int) × Vl)) (k:Int × Int):Int:=if idx l k < l.length then (idx l k:Int) else -1
theorem idx_cons (x:(Int × Int) × Vl) (l:List ((Int × Int) × Vl)) (k:Int × Int):idx (x :: l) k=if x.1=k then 0 else idx l k+1:=by
 unfold idx;rw [List.findIdx_cons]
 by_cases h:x.1=k <;> simp [h]
theorem find_idx (k:Int × Int):∀ (l:List ((Int × Int) × Vl)),find l k=(l[idx l k]?.map (·.2)).getD Vl.nil:=by
 intro l
 induction l with
 | nil=>rfl
 | cons x l ih =>
  rw [idx_cons];unfold find at ih ⊢;rw [List.find?_cons]
  by_cases h:x.1=k
  ·simp [h]
  ·simpa [h] using ih
theorem find_at {l:List ((Int × Int) × Vl)}{k:Int × Int}(h:idx l k < l.length):find l k=(l[idx l k]'h).2:=by
 rw [find_idx,List.getElem?_eq_getElem h];rfl
theorem find_no {l:List ((Int × Int) × Vl)}{k:Int × Int}(h:¬ idx l k < l.length):find l k=Vl.nil:=by
 rw [find_idx,List.getElem?_eq_none (by omega)];rfl
theorem idx_key {l:List ((Int × Int) × Vl)}{k:Int × Int}(h:idx l k < l.length):(l[idx l k]'h).1=k:=by
 have:=List.findIdx_getElem (w:=h)
 exact of_decide_eq_true this
theorem idx_first {l:List ((Int × Int) × Vl)}{k:Int × Int}{i:Nat}(hi:i < l.length) (h:l[i].1=k) (hb:∀ j (hj:j < l.length),j < i→l[j].1≠k):idx l k=i:=by
 unfold idx;rw [List.findIdx_eq hi];exact ⟨by simpa using h,fun j hj=>by simpa using hb j (by omega) hj⟩
theorem idx_none {l:List ((Int × Int) × Vl)}{k:Int × Int}(hb:∀ j (hj:j < l.length),l[j].1≠k):¬ idx l k < l.length:=fun h=>hb _ h (idx_key h)
theorem become_no {k:Int × Int}{v:Vl}:∀ {l:List ((Int × Int) × Vl)},k∉l.map (·.1)→become l k v=l:=by
 intro l h
 unfold become
 have:∀ x∈l,(if x.1=k then (k,v) else x)=x:=fun x hx=>if_neg (fun e=>h (by rw [← e];exact List.mem_map_of_mem hx))
 rw [List.map_congr_left this,List.map_id']
theorem become_idx {k:Int × Int}{v:Vl}:∀ {l:List ((Int × Int) × Vl)},(l.map (·.1)).Nodup→become l k v=l.set (idx l k) (k,v):=by
 intro l
 induction l with
 | nil=>intro _;rfl
 | cons x l ih =>
  intro h
  simp only [List.map_cons,List.nodup_cons] at h;rw [idx_cons]
  by_cases e:x.1=k
  ·rw [if_pos e,List.set_cons_zero]
   have:=become_no (v:=v) (l:=l) (k:=k) (by rw [← e];exact h.1)
   unfold become at this ⊢;rw [List.map_cons,if_pos e,this]
  ·rw [if_neg e,List.set_cons_succ,← ih h.2];unfold become;rw [List.map_cons,if_neg e]
theorem become_no_idx {l:List ((Int × Int) × Vl)}{k:Int × Int}{v:Vl}(h:¬ idx l k < l.length):become l k v=l :=
 become_no (fun hm=>by
  obtain ⟨x,hx,e⟩:=List.mem_map.1 hm;obtain ⟨i,hi,rfl⟩:=List.getElem_of_mem hx
  have:idx l k < l.length:=by
   unfold idx;exact List.findIdx_lt_length_of_exists ⟨_,hx,by simpa using e⟩
  exact h this)
theorem fieldsOf_keys (c:Nat) (l:List Ty):(fieldsOf c l).map (·.1)=(List.range l.length).map (fun (k:Nat)=>((c:Int),(k:Int))):=by
 unfold fieldsOf;rw [List.map_map];rfl
theorem freshTo_keys (l:List Cls) (cl:Int):∀ n,((freshTo l cl n).map (·.1)).Nodup∧∀ x∈(freshTo l cl n).map (·.1),x.1 < (n:Int):=by
 intro n
 induction n with
 | zero=>exact ⟨List.nodup_nil,fun x hx=>by simp [freshTo] at hx⟩
 | succ n ih =>
  rw [freshTo_succ,List.map_append]
  split
  ·rw [fieldsOf_keys];refine ⟨List.nodup_append.2 ⟨ih.1,?_,fun a ha b hb e=>?_⟩,fun x hx=>?_⟩
   ·exact List.Pairwise.map _ (fun a b (hab:a≠b) e=>hab (by injection e with e1 e2;omega)) List.nodup_range
   ·obtain ⟨k,_,rfl⟩:=List.mem_map.1 hb
    have:=ih.2 a ha
    rw [e] at this;simp at this
   ·rcases List.mem_append.1 hx with hx | hx
    ·have:=ih.2 x hx;omega
    ·obtain ⟨k,_,rfl⟩:=List.mem_map.1 hx;simp only;omega
  ·simp only [List.map_nil,List.append_nil];exact ⟨ih.1,fun x hx=>by have:=ih.2 x hx;omega⟩
theorem ob_nodup {l:List Cls}{n:Nat}{o:Ob}(h:ObOk l n o):(o.held.map (·.1)).Nodup:=by
 rw [h.keys,← freshTo_all];exact (freshTo_keys l o.cls l.length).1
theorem ob_len {l:List Cls}{n:Nat}{o:Ob}(hm:Hier.may l=true) (h:ObOk l n o):o.held.length≤72:=by
 have h1:(o.held.map (·.1)).length=((fresh l o.cls).map (·.1)).length:=by rw [h.keys]
 rw [List.length_map,List.length_map,← freshTo_all] at h1;have h2:=freshTo_len hm o.cls l.length (Nat.le_refl _);have h3:=((Hier.may_iff l).1 hm).1.2;omega
end Run
namespace Rhw
open Num Rd D Run Mem HierW Hpw
theorem quiet_eq {P:Program}{f:FuncId}{args:Array Value}{w:World}{n:Nat}{v:Value}(h:Calls P f args (w.drewN n) fun e w'=>e=.returned v∧w.drewN n=w'):Calls P f args (w.drewN n) fun e w''=>e=.returned v∧∃ m,w''=w.drewN m :=
 h.mono fun _ _ ⟨he,hm⟩=>⟨he,n,hm.symm⟩
theorem rbelowV (v:Value) (l:List Cls) (c d:Int) (p:Bool) (w:World) (hp:Hier.is l c d=p) (h:Cs w v l) (hw:Hier.Wf l):Calls Try.prog 154 #[v,.int .i64 c,.int .i64 d] w fun e w'=>e=.returned (.bool p)∧w=w':=by
 subst hp;exact rbelow v l c d w h hw
def nilV:Value:=.slice none 0 0
theorem rocells_get:∀ (os:List Ob) (vs:List Value) (i:Nat),vs.length=os.length→i < os.length→(rocells os vs)[i*2]? = some (.int .i64 (os.getD i nilOb).cls)∧(rocells os vs)[i*2+1]? = some (vs.getD i nilV):=by
 intro os
 induction os with
 | nil=>intro vs i _ hi;simp at hi
 | cons o os ih =>
  intro vs i h hi
  cases vs with
  | nil=>simp at h
  | cons v vs =>
   cases i with
   | zero=>simp [rocells]
   | succ i =>
    have:=ih vs i (by simpa using h) (by simpa using hi)
    rw [show (i+1)*2+1=(i*2+1)+2 by omega,show (i+1)*2=i*2+2 by omega]
    simpa [rocells] using this
theorem rocells_set:∀ (os:List Ob) (vs:List Value) (i:Nat) (q:List ((Int × Int) × Vl)),rocells (os.set i ⟨(os.getD i nilOb).cls,q⟩) vs=rocells os vs:=by
 intro os
 induction os with
 | nil=>intro vs i q;rfl
 | cons o os ih =>
  intro vs i q
  cases vs with
  | nil=>cases i <;> rfl
  | cons v vs =>
   cases i with
   | zero=>simp [rocells]
   | succ i =>
    have:=ih vs i q
    simpa [rocells] using this
section
variable {E:Ev}{w w':World}{L:RL}{h:Hp}{d:Nat}{s:Sv}
theorem RH.ob (H:RH E w L h d s){n:Int}(h0:0≤n) (h1:n < h.objs.length):∃ g cap,L.vb=.slice (some ⟨g,0,none⟩) h.objs.length cap∧h.objs.length≤cap∧cap≤9223372036854775807∧g < w.heap.size∧g≠E.hb∧w.cell? ⟨g,n.toNat*2,none⟩=some (.int .i64 (obj h n).cls)∧w.cell? ⟨g,n.toNat*2+1,none⟩=some (L.hvs.getD n.toNat nilV):=by
 obtain ⟨g,cap,hv,c1,c2,_,hg⟩:=row_form H.rows.objs (by omega)
 have ho:=H.rows.objs;have hm:=H.rows.many;rw [hv] at ho;refine ⟨g,cap,hv,c1,c2,hg,fun e=>?_,?_,?_⟩
 ·subst e;exact H.rows.hb (mem_rows.2 (.inr (.inl (by rw [hv];rfl))))
 ·exact row_cell ho (rocells_get h.objs L.hvs n.toNat hm (by omega)).1
 ·exact row_cell ho (rocells_get h.objs L.hvs n.toNat hm (by omega)).2
theorem RH.held (H:RH E w L h d s){n:Int}(h0:0≤n) (h1:n < h.objs.length):w.ownsRow E.B 284 4 (L.hvs.getD n.toNat nilV) (obj h n).held.length (hcells (obj h n).held):=by
 have hl:n.toNat < L.hvs.length:=by rw [H.rows.many];omega
 have:=H.rows.held n.toNat hl
 rw [List.getD_eq_getElem?_getD,List.getElem?_eq_getElem hl];exact this
theorem RH.cls (H:RH E w L h d s):∃ ca cap,E.vc=.slice ca E.f.classes.length cap∧Cs w E.vc E.f.classes:=by
 obtain ⟨ca,ccap,hvc,_⟩:=id H.rows.cls;exact ⟨ca,ccap,hvc,H.rows.cls.mono mCls (Below.refl _ _) (Nat.le_of_lt (Nat.lt_of_le_of_lt H.rows.base.1 H.rows.base.2))⟩
set_option maxRecDepth 100000 in
theorem of (H:RH E w L h d s) (hm:Hier.may E.f.classes=true) (v:Vl) (t:Ty) (hv:v.kind=3→v.n < h.objs.length) :
  Calls Try.prog 106 #[.pointer (some ⟨E.hb,0,none⟩),.agg #[.int .i64 v.kind,.int .i64 v.n],.agg #[.int .i64 t.kind,.int .i64 t.cls]] w fun e w'=>e=.returned (.bool (ofT E.f.classes h v t))∧Below w.heap.size w w':=by
 have hhb:=H.rows.base.2;have HH:=Lib.hid H;obtain ⟨kd,n⟩:=v;obtain ⟨tk,tc⟩:=t
 by_cases q1:kd=tk
 ·subst q1
  by_cases q2:kd=3
  ·subst q2
   by_cases q3:n < 0
   ·have e1:Hid (ofT E.f.classes h ⟨3,n⟩ ⟨3,tc⟩=true):=by show _=_;simp [ofT,q3]
    clear H hv
    go_enter Try.func106,Try.ntmps106
    go_wp2
    go_quiet (fail)
    go_wp2
    go_ret;exact ⟨ret_bool e1.out.symm,below_drewN Rd.byB _⟩
   ·have hn:n < h.objs.length:=hv rfl;have h0:0≤n:=by omega
    obtain ⟨g,cap,hvb,c1,c2,hg,hgne,o1,_⟩:=H.ob h0 hn;obtain ⟨ca,ccap,hvc,HC⟩:=H.cls;have b0:=H.c0;have b2:=H.c2;rw [hvb] at b2;rw [hvc] at b0 HC;replace HC:=Lib.hid HC;have e1:Hid (ofT E.f.classes h ⟨3,n⟩ ⟨3,tc⟩=Hier.is E.f.classes (obj h n).cls tc):=by show _=_;simp [ofT,q3]
    have hq3:decide (n < 0)=false:=by simpa using q3
    have hwf:=Lib.hid (Hier.wf_of_may hm);have hI:n < h.objs.length:=hn;clear H hv hvb hvc
    go_enter Try.func106,Try.ntmps106
    go_wp2
    go_quiet ((go_at_call 154;exact quiet_eq (rbelow _ E.f.classes (obj h n).cls tc _ (HC.out.next (below_drewN (by exact Rd.byB) _)) hwf.out)))
    go_wp2
    go_ret;exact ⟨ret_bool e1.out.symm,below_drewN Rd.byB _⟩
  ·have e1:Hid (ofT E.f.classes h ⟨kd,n⟩ ⟨kd,tc⟩=true):=by show _=_;simp [ofT,q2]
   have hb:(kd != 3)=true:=by simpa using q2
   clear H hv
   go_enter Try.func106,Try.ntmps106
   go_wp2
   go_quiet (fail)
   go_wp2
   go_ret;exact ⟨ret_bool e1.out.symm,below_drewN Rd.byB _⟩
 ·have e1:Hid (ofT E.f.classes h ⟨kd,n⟩ ⟨tk,tc⟩=false):=by show _=_;simp [ofT,q1]
  have hb:(kd==tk)=false:=by simpa using q1
  clear H hv
  go_enter Try.func106,Try.ntmps106
  go_wp2
  go_ret;exact ⟨ret_bool e1.out.symm,Rd.byB⟩
theorem ofV (H:RH E w L h d s) (hm:Hier.may E.f.classes=true) (v:Vl) (t:Ty) (p:Bool) (hp:ofT E.f.classes h v t=p) (hv:v.kind=3→v.n < h.objs.length) :
  Calls Try.prog 106 #[.pointer (some ⟨E.hb,0,none⟩),.agg #[.int .i64 v.kind,.int .i64 v.n],.agg #[.int .i64 t.kind,.int .i64 t.cls]] w fun e w'=>e=.returned (.bool p)∧Below w.heap.size w w':=by
 subst hp;exact of H hm v t hv
end
end Rhw
end Go.Proofs.Ytncmhenfgbcihab
