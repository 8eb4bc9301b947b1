/- Parts of the proof: Flow, Safe, Chk, ChkS, ChkG, ChkT. -/
import Derived.Test.YtncmhenfgbcihabG01
import Derived.Test.YtncmhenfgbcihabG07
set_option linter.unusedSimpArgs false
set_option linter.unusedVariables false
set_option maxHeartbeats 8000000
namespace Go.Proofs.Ytncmhenfgbcihab
open Go.RowKit
namespace Flow
open D Num
theorem ty_ext {a b:Ty}(h1:a.kind=b.kind) (h2:a.cls=b.cls):a=b:=by cases a;cases b;simp_all
instance tyDec:DecidableEq Ty:=fun a b=>if h:a.kind=b.kind∧a.cls=b.cls then isTrue (ty_ext h.1 h.2) else isFalse (fun e=>h (by rw [e];exact ⟨rfl,rfl⟩))
def none_:Ty:=⟨0,0⟩
structure State where
 slots:List Ty
 stack:List Ty
 broken:Bool
def State.bad:State:=⟨[],[],true⟩
def kd (l:List Ty) (i:Nat):Int:=(l.getD i none_).kind
def lose (l:List Ty) (a:Nat):List Ty :=
 if kd l a=5 then (l.set (a+1) none_).set a none_ else if kd l a=6 then (l.set (a - 1) none_).set a none_ else l.set a none_
def store (l:List Ty) (a:Nat) (x:Ty):List Ty :=
 if x.kind≠2 then (lose l a).set a x else ((lose (lose l a) (a+1)).set a ⟨5,0⟩).set (a+1) ⟨6,0⟩
def loadV (l:List Ty) (a:Nat) (k:Int):Ty:=if k=2 then ⟨2,0⟩ else l.getD a none_
def loadB (l:List Ty) (a:Nat) (k:Int):Bool :=
 if k=2 then decide (kd l a=5) && decide (kd l (a+1)=6) else if k=3 then decide (kd l a=3) || decide (kd l a=7) else decide (kd l a=k)
def fits (c:List Cls) (x t:Ty):Bool:=if t.kind=3 then decide (x.kind=7) || (decide (x.kind=3) && Hier.is c x.cls t.cls) else decide (x.kind=t.kind)
def both (c:List Cls) (a b:Ty):Ty :=
 if a=b then a else if a.kind=7∧b.kind=3 then b else if b.kind=7∧a.kind=3 then a else if a.kind=3∧b.kind=3 then ⟨3,Hier.meet c a.cls b.cls⟩ else none_
def zip (c:List Cls):List Ty→List Ty→List Ty
 | a :: l,b :: m=>both c a b :: zip c l m
 | l,_=>l
def together (c:List Cls) (a b:State):State :=
 if a.broken=true∨b.broken=true∨a.stack.length≠b.stack.length then State.bad
 else if (zip c a.stack b.stack).any (fun x=>decide (x.kind=0)) then State.bad else ⟨zip c a.slots b.slots,zip c a.stack b.stack,false⟩
instance stDec:DecidableEq State:=fun a b=>if h:a.slots=b.slots∧a.stack=b.stack∧a.broken=b.broken then isTrue (by cases a;cases b;simp_all) else isFalse (fun e=>h (by rw [e];exact ⟨rfl,rfl,rfl⟩))
abbrev One:=Nat→State→Bool × List (Nat × State)
structure Run where
 states:List (Option State)
 work:List Nat
 bad:Bool
def lead (c:List Cls) (r:Run) (a:Nat) (s:State):Run :=
 if a < r.states.length then
  match r.states.getD a none with
  | none=>⟨r.states.set a (some s),r.work++[a],r.bad⟩
  | some was=>if together c was s=was then r else ⟨r.states.set a (some (together c was s)),r.work++[a],r.bad⟩
 else r
def leads (c:List Cls) (r:Run) (l:List (Nat × State)):Run:=l.foldl (fun r p=>lead c r p.1 p.2) r
def round (c:List Cls) (one:One) (r:Run):Run :=
 match r.work.getLast? with
 | none=>r
 | some a =>
  let s:=(r.states.getD a none).getD State.bad
  leads c ⟨r.states,r.work.dropLast,r.bad || !(one a s).1⟩ (one a s).2
def iter (c:List Cls) (one:One):Nat→Run→Run
 | 0,r=>r
 | n+1,r=>iter c one n (round c one r)
def rk (x:Ty):Nat:=if x.kind=0 then 0 else if x.kind=3 then x.cls.toNat+1 else if x.kind=7 then 20 else 1
def rks:List Ty→Nat
 | []=>0
 | x :: l=>rk x+rks l
def rkS (s:State):Nat:=if s.broken then 0 else 1+rks s.slots+rks s.stack
def rkO (top:Nat):Option State→Nat
 | none=>top
 | some s=>rkS s
def rkL (top:Nat):List (Option State)→Nat
 | []=>0
 | s :: l=>rkO top s+rkL top l
def Wf (n:Nat) (x:Ty):Prop:=(x.kind=3→0≤x.cls∧x.cls < n)∧(x.kind≠3→x.cls=0)
def WfL (n:Nat) (l:List Ty):Prop:=∀ x∈l,Wf n x
def Paired (l:List Ty):Prop:=(∀ i,kd l i=5→kd l (i+1)=6)∧(∀ i,kd l i=6→0 < i∧kd l (i - 1)=5)
def StOk (n nl ns:Nat) (s:State):Prop :=
 (s.broken=true→s=State.bad)∧(s.broken=false→s.slots.length=nl∧s.stack.length≤ns∧WfL n s.slots∧WfL n s.stack∧Paired s.slots)
section
variable {c:List Cls}
theorem wf_none (n:Nat):Wf n none_:=⟨fun h=>by simp [none_] at h,fun _=>rfl⟩
theorem rk_le (hm:Hier.may c=true){x:Ty}(h:Wf c.length x):rk x≤20:=by
 have hlen:c.length≤12:=((Hier.may_iff c).1 hm).1.2;unfold rk
 split
 ·omega
 ·split
  ·rename_i h3;have:=h.1 h3;omega
  ·split <;> omega
theorem rks_le (hm:Hier.may c=true):∀ {l:List Ty},WfL c.length l→rks l≤20*l.length:=by
 intro l
 induction l with
 | nil=>intro _;simp [rks]
 | cons x l ih =>
  intro h
  have h1:=rk_le hm (h x (by simp))
  have h2:=ih (fun y hy=>h y (by simp [hy]))
  simp only [rks,List.length_cons];omega
theorem both_wf (hm:Hier.may c=true){a b:Ty}(ha:Wf c.length a) (hb:Wf c.length b):Wf c.length (both c a b):=by
 unfold both
 split
 ·exact ha
 ·split
  ·exact hb
  ·split
   ·exact ha
   ·split
    ·rename_i h
     exact ⟨fun _=>Hier.meet_range hm (ha.1 h.1) (hb.1 h.2),fun e=>absurd rfl e⟩
    ·exact wf_none _
theorem both_rk (hm:Hier.may c=true){a b:Ty}(ha:Wf c.length a) (hb:Wf c.length b):both c a b=a∨rk (both c a b) < rk a:=by
 have hlen:c.length≤12:=((Hier.may_iff c).1 hm).1.2;unfold both
 by_cases e:a=b
 ·rw [if_pos e];exact .inl rfl
 rw [if_neg e]
 by_cases e1:a.kind=7∧b.kind=3
 ·rw [if_pos e1]
  have:=hb.1 e1.2
  right
  unfold rk;rw [if_neg (by omega),if_pos e1.2,if_neg (by omega),if_neg (by omega),if_pos e1.1];omega
 rw [if_neg e1]
 by_cases e2:b.kind=7∧a.kind=3
 ·rw [if_pos e2];exact .inl rfl
 rw [if_neg e2]
 by_cases e3:a.kind=3∧b.kind=3
 ·rw [if_pos e3];have h1:=ha.1 e3.1;have h2:=hb.1 e3.2;have hb3:=(Hier.join_best hm h1 h2).1;have hle:=Hier.is_le' (Hier.wf_of_may hm) hb3
  by_cases hn:Hier.meet c a.cls b.cls=a.cls
  ·exact .inl (ty_ext e3.1.symm hn)
  ·right
   unfold rk;simp only;rw [if_neg (by omega),if_pos trivial,if_neg (by omega),if_pos e3.1]
   omega
 rw [if_neg e3]
 by_cases e4:a.kind=0
 ·exact .inl (ty_ext e4.symm (ha.2 (by omega)).symm)
 ·right
  show 0 < rk a
  unfold rk;rw [if_neg e4]
  split
  ·omega
  ·split <;> omega
theorem zip_len:∀ (l m:List Ty),(zip c l m).length=l.length:=by
 intro l
 induction l with
 | nil=>intro m;cases m <;> rfl
 | cons a l ih=>intro m;cases m with
  | nil=>rfl
  | cons b m=>simp [zip,ih]
theorem zip_wf (hm:Hier.may c=true):∀ {l m:List Ty},WfL c.length l→WfL c.length m→WfL c.length (zip c l m):=by
 intro l
 induction l with
 | nil=>intro m h _;cases m <;> exact h
 | cons a l ih =>
  intro m h hm'
  cases m with
  | nil=>exact h
  | cons b m =>
   intro x hx
   simp only [zip,List.mem_cons] at hx
   rcases hx with hx | hx
   ·subst hx;exact both_wf hm (h a (by simp)) (hm' b (by simp))
   ·exact ih (fun y hy=>h y (by simp [hy])) (fun y hy=>hm' y (by simp [hy])) x hx
theorem zip_rk (hm:Hier.may c=true):∀ {l m:List Ty},WfL c.length l→WfL c.length m→zip c l m=l∨rks (zip c l m) < rks l:=by
 intro l
 induction l with
 | nil=>intro m h _;left;cases m <;> rfl
 | cons a l ih =>
  intro m h hm'
  cases m with
  | nil=>exact .inl rfl
  | cons b m =>
   have h1:=both_rk hm (h a (by simp)) (hm' b (by simp))
   have h2:=ih (m:=m) (fun y hy=>h y (by simp [hy])) (fun y hy=>hm' y (by simp [hy]))
   simp only [zip,rks]
   rcases h1 with h1 | h1 <;> rcases h2 with h2 | h2
   ·left;rw [h1,h2]
   ·right;rw [h1];omega
   ·right;rw [h2];omega
   ·right;omega
theorem zip_getD:∀ (l m:List Ty) (i:Nat),l.length=m.length→(zip c l m).getD i none_=if i < l.length then both c (l.getD i none_) (m.getD i none_) else none_:=by
 intro l
 induction l with
 | nil=>intro m i h;cases m <;> simp [zip]
 | cons a l ih =>
  intro m i h
  cases m with
  | nil=>simp at h
  | cons b m =>
   cases i with
   | zero=>simp [zip]
   | succ i=>simpa [zip] using ih m i (by simpa using h)
theorem both_kind {a b:Ty}{k:Int}(hk:k=5∨k=6):(both c a b).kind=k↔a=b∧a.kind=k:=by
 unfold both
 constructor
 ·intro h
  by_cases e:a=b
  ·rw [if_pos e] at h;exact ⟨e,h⟩
  ·rw [if_neg e] at h;exfalso
   split at h
   ·omega
   ·split at h
    ·omega
    ·split at h
     ·simp at h;omega
     ·simp [none_] at h;omega
 ·rintro ⟨e,h⟩;rw [if_pos e];exact h
theorem zip_paired {l m:List Ty}(hl:WfL c.length l) (hm:WfL c.length m) (hlen:l.length=m.length) (p:Paired l) (q:Paired m):Paired (zip c l m):=by
 have out:∀ (l:List Ty) i,l.length≤i→kd l i=0:=fun l i h=>by unfold kd;rw [List.getD_eq_getElem?_getD,List.getElem?_eq_none h];rfl
 have wf:∀ {l:List Ty},WfL c.length l→∀ i,kd l i≠3→(l.getD i none_).cls=0:=fun {l} h i hk=>by
  by_cases hi:i < l.length
  ·have hw:=h l[i] (List.getElem_mem hi);unfold kd at hk;rw [List.getD_eq_getElem?_getD,List.getElem?_eq_getElem hi] at hk ⊢;exact hw.2 hk
  ·rw [List.getD_eq_getElem?_getD,List.getElem?_eq_none (by omega)];rfl
 have key:∀ (k:Int),(k=5∨k=6)→∀ i,kd (zip c l m) i=k↔(i < l.length∧kd l i=k∧kd m i=k):=fun k hk i=>by
  unfold kd;rw [zip_getD l m i hlen]
  by_cases hi:i < l.length
  ·rw [if_pos hi,both_kind hk]
   constructor
   ·rintro ⟨e,h⟩;exact ⟨hi,h,by rw [← e];exact h⟩
   ·rintro ⟨_,h1,h2⟩;exact ⟨ty_ext (by rw [h1,h2]) (by rw [wf hl i (by unfold kd;omega),wf hm i (by unfold kd;omega)]),h1⟩
  ·rw [if_neg hi];simp [none_];omega
 refine ⟨fun i h=>?_,fun i h=>?_⟩
 ·obtain ⟨h0,h1,h2⟩:=(key 5 (.inl rfl) i).1 h;have h3:=p.1 i h1;refine (key 6 (.inr rfl) _).2 ⟨?_,h3,q.1 i h2⟩;refine Nat.lt_of_not_le (fun hle=>?_);rw [out l _ hle] at h3;omega
 ·obtain ⟨h0,h1,h2⟩:=(key 6 (.inr rfl) i).1 h;have h3:=p.2 i h1;exact ⟨h3.1,(key 5 (.inl rfl) _).2 ⟨by omega,h3.2,(q.2 i h2).2⟩⟩
theorem bad_ok (n nl ns:Nat):StOk n nl ns State.bad:=⟨fun _=>rfl,fun h=>by cases h⟩
theorem together_ok (hm:Hier.may c=true){nl ns:Nat}{a b:State}(ha:StOk c.length nl ns a) (hb:StOk c.length nl ns b):StOk c.length nl ns (together c a b):=by
 unfold together
 split
 ·exact bad_ok _ _ _
 ·rename_i h
  have h1:a.broken=false:=by
                                     cases h':a.broken;· rfl
                                     · exact absurd (.inl h') h
  have h2:b.broken=false:=by
                                     cases h':b.broken;· rfl
                                     · exact absurd (.inr (.inl h')) h
  obtain ⟨a1,a2,a3,a4,a5⟩:=ha.2 h1;obtain ⟨b1,b2,b3,b4,b5⟩:=hb.2 h2
  split
  ·exact bad_ok _ _ _
  ·exact ⟨fun h=>absurd h (by simp),fun _=>⟨by simp only [zip_len];exact a1,by simp only [zip_len];exact a2,zip_wf hm a3 b3,zip_wf hm a4 b4,zip_paired a3 b3 (by omega) a5 b5⟩⟩
theorem together_rk (hm:Hier.may c=true){nl ns:Nat}{a b:State}(ha:StOk c.length nl ns a) (hb:StOk c.length nl ns b) (hne:together c a b≠a):rkS (together c a b) < rkS a:=by
 cases h1:a.broken
 ·obtain ⟨a1,a2,a3,a4,a5⟩:=ha.2 h1;have hpos:0 < rkS a:=by unfold rkS;rw [h1];simp;omega
  unfold together at hne ⊢
  split
  ·exact hpos
  ·rename_i h
   have h2:b.broken=false:=by
                                       cases h':b.broken;· rfl
                                       · exact absurd (.inr (.inl h')) h
   obtain ⟨b1,b2,b3,b4,b5⟩:=hb.2 h2
   split
   ·exact hpos
   ·rename_i hk
    rw [if_neg h,if_neg hk] at hne;unfold rkS;rw [h1];simp only [Bool.false_eq_true,if_false]
    rcases zip_rk hm a3 b3 with e1 | e1 <;> rcases zip_rk hm a4 b4 with e2 | e2
    ·exfalso;apply hne;rw [e1,e2];cases a;simp_all
    ·rw [e1];omega
    ·rw [e2];omega
    ·omega
 ·have:=ha.1 h1
  subst this;exfalso
  apply hne
  unfold together;rw [if_pos (.inl rfl)]
theorem rkS_le (hm:Hier.may c=true){nl ns:Nat}{a:State}(ha:StOk c.length nl ns a):rkS a≤1+20*nl+20*ns:=by
 unfold rkS
 cases h1:a.broken
 ·obtain ⟨a1,a2,a3,a4,a5⟩:=ha.2 h1
  have:=rks_le hm a3
  have:=rks_le hm a4
  simp only [Bool.false_eq_true,if_false];omega
 ·simp
end
def top (nl ns:Nat):Nat:=2+20*nl+20*ns
def RunOk (n nl ns len:Nat) (r:Run):Prop :=
 r.states.length=len∧(∀ k s,r.states.getD k none=some s→StOk n nl ns s)∧∀ a∈r.work,a < len∧∃ s,r.states.getD a none=some s
def meas (nl ns:Nat) (r:Run):Nat:=2*rkL (top nl ns) r.states+r.work.length
theorem getD_lt {α:Type}{l:List (Option α)}{k:Nat}{x:α}(h:l.getD k none=some x):k < l.length:=by
 refine Nat.lt_of_not_le (fun hle=>?_);rw [List.getD_eq_getElem?_getD,List.getElem?_eq_none hle] at h
 cases h
theorem getD_setO {α:Type}(l:List (Option α)) (j i:Nat) (x:Option α) (hj:j < l.length):(l.set j x).getD i none=if i=j then x else l.getD i none:=by
 rw [List.getD_eq_getElem?_getD,List.getD_eq_getElem?_getD,List.getElem?_set]
 by_cases e:j=i
 ·subst e;simp [hj]
 ·have e':¬ i=j:=fun h=>e h.symm;simp [e,e']
theorem rkL_set (t:Nat):∀ (l:List (Option State)) (k:Nat) (x:Option State),k < l.length→rkL t (l.set k x)+rkO t (l.getD k none)=rkL t l+rkO t x:=by
 intro l
 induction l with
 | nil=>intro k x h;simp at h
 | cons a l ih =>
  intro k x h
  cases k with
  | zero=>simp [rkL];omega
  | succ k =>
   have:=ih k x (by simpa using h)
   simp only [List.set_cons_succ,rkL,List.getD_cons_succ];omega
section
variable {c:List Cls}{nl ns len:Nat}
theorem lead_cases (hm:Hier.may c=true){r:Run}(hr:RunOk c.length nl ns len r){a:Nat}{s:State}(hs:StOk c.length nl ns s) :
  (lead c r a s=r∧(a < len→∃ was,r.states.getD a none=some was∧together c was s=was)) ∨
  (∃ t,a < len∧lead c r a s=⟨r.states.set a (some t),r.work++[a],r.bad⟩∧StOk c.length nl ns t∧rkO (top nl ns) (some t) < rkO (top nl ns) (r.states.getD a none) ∧
   (t=s∧r.states.getD a none=none∨∃ was,r.states.getD a none=some was∧t=together c was s)):=by
 unfold lead
 by_cases hlt:a < r.states.length
 ·rw [if_pos hlt]
  cases hg:r.states.getD a none with
  | none =>
   refine .inr ⟨s,by rw [← hr.1];exact hlt,rfl,hs,?_,.inl ⟨rfl,rfl⟩⟩
   have:=rkS_le hm hs
   show rkS s < top nl ns
   unfold top;omega
  | some was =>
   have hw:=hr.2.1 a was hg;simp only
   by_cases he:together c was s=was
   ·rw [if_pos he];exact .inl ⟨rfl,fun _=>⟨was,rfl,he⟩⟩
   ·rw [if_neg he];exact .inr ⟨_,by rw [← hr.1];exact hlt,rfl,together_ok hm hw hs,together_rk hm hw hs he,.inr ⟨was,rfl,rfl⟩⟩
 ·rw [if_neg hlt];exact .inl ⟨rfl,fun h=>by rw [hr.1] at hlt;omega⟩
theorem lead_ok (hm:Hier.may c=true){r:Run}(hr:RunOk c.length nl ns len r){a:Nat}{s:State}(hs:StOk c.length nl ns s):RunOk c.length nl ns len (lead c r a s)∧meas nl ns (lead c r a s)≤meas nl ns r∧(lead c r a s).bad=r.bad:=by
 rcases lead_cases hm hr (a:=a) hs with ⟨e,_⟩ | ⟨t,hlt,e,ht,hrk,_⟩
 ·rw [e];exact ⟨hr,Nat.le_refl _,rfl⟩
 ·rw [e];obtain ⟨h1,h2,h3⟩:=hr;have hlt':a < r.states.length:=by omega
  refine ⟨⟨by simpa using h1,fun k x hk=>?_,fun b hb=>?_⟩,?_,rfl⟩
  ·simp only at hk;rw [getD_setO _ _ _ _ hlt'] at hk
   split at hk
   ·injection hk with hk;subst hk;exact ht
   ·exact h2 k x hk
  ·simp only;rw [getD_setO _ _ _ _ hlt']
   rcases List.mem_append.1 hb with hb | hb
   ·refine ⟨(h3 b hb).1,?_⟩
    split
    ·exact ⟨_,rfl⟩
    ·exact (h3 b hb).2
   ·have:b=a:=by simpa using hb
    subst this;exact ⟨hlt,by rw [if_pos rfl];exact ⟨_,rfl⟩⟩
  ·have:=rkL_set (top nl ns) r.states a (some t) hlt'
   unfold meas;simp only [List.length_append,List.length_cons,List.length_nil];omega
theorem leads_ok (hm:Hier.may c=true):∀ (l:List (Nat × State)){r:Run},RunOk c.length nl ns len r→(∀ p∈l,StOk c.length nl ns p.2)→RunOk c.length nl ns len (leads c r l)∧meas nl ns (leads c r l)≤meas nl ns r∧(leads c r l).bad=r.bad:=by
 intro l
 induction l with
 | nil=>intro r hr _;exact ⟨hr,Nat.le_refl _,rfl⟩
 | cons p l ih =>
  intro r hr hl
  obtain ⟨h1,h2,h3⟩:=lead_ok hm hr (a:=p.1) (hl p (by simp))
  obtain ⟨h4,h5,h6⟩:=ih h1 (fun q hq=>hl q (by simp [hq]))
  exact ⟨h4,Nat.le_trans h5 h2,h6.trans h3⟩
def OneOk (n nl ns:Nat) (one:One):Prop:=∀ a s,StOk n nl ns s→∀ p∈(one a s).2,StOk n nl ns p.2
theorem popped {r:Run}{n:Nat}(hr:RunOk n nl ns len r) (b:Bool):RunOk n nl ns len ⟨r.states,r.work.dropLast,b⟩:=⟨hr.1,hr.2.1,fun a ha=>hr.2.2 a (List.dropLast_subset _ ha)⟩
theorem last_of {l:List Nat}{a:Nat}(h:l.getLast? = some a):l=l.dropLast++[a]:=by
 have hne:l≠[]:=fun e=>by subst e;simp at h
 rw [List.getLast?_eq_some_getLast hne] at h;injection h with h
 rw [← h];exact (List.dropLast_concat_getLast hne).symm
theorem round_ok (hm:Hier.may c=true){one:One}(ho:OneOk c.length nl ns one){r:Run}(hr:RunOk c.length nl ns len r):RunOk c.length nl ns len (round c one r)∧(r.work≠[]→meas nl ns (round c one r) < meas nl ns r):=by
 unfold round
 cases hl:r.work.getLast? with
 | none=>exact ⟨hr,fun h=>absurd (List.getLast?_eq_none_iff.1 hl) h⟩
 | some a =>
  have hw:=last_of hl;obtain ⟨_,s,hs⟩:=hr.2.2 a (by rw [hw];simp)
  simp only [hs,Option.getD_some];obtain ⟨h1,h2,h3⟩:=leads_ok hm _ (popped hr (r.bad || !(one a s).1)) (ho a s (hr.2.1 a s hs))
  refine ⟨h1,fun _=>Nat.lt_of_le_of_lt h2 ?_⟩;unfold meas
  have:r.work.length=r.work.dropLast.length+1:=by rw [hw];simp
  simp only;omega
theorem iter_ok (hm:Hier.may c=true){one:One}(ho:OneOk c.length nl ns one):∀ (n:Nat){r:Run},RunOk c.length nl ns len r→RunOk c.length nl ns len (iter c one n r):=by
 intro n
 induction n with
 | zero=>intro r h;exact h
 | succ n ih=>intro r h;exact ih (round_ok hm ho h).1
theorem iter_done {one:One}{r:Run}(h:r.work=[]):∀ n,iter c one n r=r:=by
 intro n
 induction n with
 | zero=>rfl
 | succ n ih=>rw [iter,round,h];exact ih
def fin (c:List Cls) (one:One) (nl ns:Nat) (r:Run):Run:=iter c one (meas nl ns r) r
theorem iter_fin (hm:Hier.may c=true){one:One}(ho:OneOk c.length nl ns one):∀ (n:Nat){r:Run},RunOk c.length nl ns len r→meas nl ns r≤n→(iter c one n r).work=[]:=by
 intro n
 induction n with
 | zero =>
  intro r hr h
  unfold meas at h;exact List.eq_nil_of_length_eq_zero (by simp only [iter];omega)
 | succ n ih =>
  intro r hr h
  by_cases hw:r.work=[]
  ·rw [iter_done hw];exact hw
  ·have:=(round_ok hm ho hr).2 hw
   exact ih (round_ok hm ho hr).1 (by omega)
theorem fin_round (hm:Hier.may c=true){one:One}(ho:OneOk c.length nl ns one){r:Run}(hr:RunOk c.length nl ns len r) (hw:r.work≠[]):fin c one nl ns (round c one r)=fin c one nl ns r:=by
 have h1:=(round_ok hm ho hr).2 hw;unfold fin
 cases hme:meas nl ns r with
 | zero=>omega
 | succ n =>
  rw [iter]
  have key:∀ (k n:Nat){q:Run},RunOk c.length nl ns len q→meas nl ns q≤k→k≤n→iter c one n q=iter c one k q:=by
   intro k
   induction k with
   | zero =>
    intro n q hq h _
    have:q.work=[]:=by unfold meas at h;exact List.eq_nil_of_length_eq_zero (by omega)
    rw [iter_done this,iter_done this]
   | succ k ih =>
    intro n q hq h hk
    cases n with
    | zero=>omega
    | succ n =>
     rw [iter,iter]
     by_cases hw:q.work=[]
     ·have e:round c one q=q:=by unfold round;rw [hw];rfl
      rw [e,iter_done hw,iter_done hw]
     ·have:=(round_ok hm ho hq).2 hw
      exact ih n (round_ok hm ho hq).1 (by omega) (by omega)
  exact (key _ n (round_ok hm ho hr).1 (Nat.le_refl _) (by omega)).symm
theorem fin_done (hm:Hier.may c=true){one:One}{r:Run}(hw:r.work=[]):fin c one nl ns r=r:=iter_done hw _
end
section
variable {c:List Cls}{nl ns len:Nat}{X:Type}(Γ:State→X→Prop)
def Le (a b:State):Prop:=∀ x,Γ a x→Γ b x
def Cov (r:Run) (p:Nat) (s:State):Prop:=∃ z,r.states.getD p none=some z∧Le Γ s z
def Held (one:One) (len:Nat) (r:Run):Prop:=∀ k s,r.states.getD k none=some s→k∈r.work∨(((one k s).1=true∨r.bad=true)∧∀ p∈(one k s).2,p.1 < len→Cov Γ r p.1 p.2)
def Up (r r':Run):Prop:=(∀ k s,r.states.getD k none=some s→Cov Γ r' k s)∧(∀ k s,r'.states.getD k none=some s→r.states.getD k none=some s∨k∈r'.work)∧(∀ k∈r.work,k∈r'.work)
theorem Up.refl (r:Run):Up Γ r r:=⟨fun k s h=>⟨s,h,fun _ h=>h⟩,fun k s h=>.inl h,fun _ h=>h⟩
theorem Cov.up {r r':Run}(h:Up Γ r r'){p:Nat}{s:State}(hc:Cov Γ r p s):Cov Γ r' p s:=by
 obtain ⟨z,h1,h2⟩:=hc;obtain ⟨z',h3,h4⟩:=h.1 p z h1;exact ⟨z',h3,fun x hx=>h4 x (h2 x hx)⟩
theorem Up.trans {a b d:Run}(h:Up Γ a b) (k:Up Γ b d):Up Γ a d:=by
 refine ⟨fun p s hs=>Cov.up Γ k (h.1 p s hs),fun p s hs=>?_,fun p hp=>k.2.2 p (h.2.2 p hp)⟩
 rcases k.2.1 p s hs with h1 | h1
 ·rcases h.2.1 p s h1 with h2 | h2
  ·exact .inl h2
  ·exact .inr (k.2.2 p h2)
 ·exact .inr h1
structure Meets (c:List Cls) (nl ns:Nat):Prop where
 left:∀ a b,StOk c.length nl ns a→StOk c.length nl ns b→Le Γ a (together c a b)
 right:∀ a b,StOk c.length nl ns a→StOk c.length nl ns b→Le Γ b (together c a b)
theorem lead_up (hm:Hier.may c=true) (G:Meets Γ c nl ns){r:Run}(hr:RunOk c.length nl ns len r){a:Nat}{s:State}(hs:StOk c.length nl ns s):Up Γ r (lead c r a s)∧(a < len→Cov Γ (lead c r a s) a s):=by
 rcases lead_cases hm hr (a:=a) hs with ⟨e,h⟩ | ⟨t,hlt,e,ht,_,hc⟩
 ·rw [e];refine ⟨Up.refl Γ r,fun hlt=>?_⟩;obtain ⟨was,h1,h2⟩:=h hlt;exact ⟨was,h1,by have:=G.right was s (hr.2.1 a was h1) hs;rw [h2] at this;exact this⟩
 ·rw [e];have hlt':a < r.states.length:=by rw [hr.1];exact hlt
  refine ⟨⟨fun k z hz=>?_,fun k z hz=>?_,fun k hk=>by simp [hk]⟩,fun _=>⟨t,by simp only;rw [getD_setO _ _ _ _ hlt',if_pos rfl],?_⟩⟩
  ·unfold Cov;simp only;rw [getD_setO _ _ _ _ hlt']
   by_cases ek:k=a
   ·subst ek;rw [if_pos rfl]
    rcases hc with ⟨_,hn⟩ | ⟨was,hwas,htg⟩
    ·rw [hn] at hz;cases hz
    ·rw [hwas] at hz;injection hz with hz;subst hz
     exact ⟨t,rfl,by rw [htg];exact G.left _ _ (hr.2.1 _ _ hwas) hs⟩
   ·rw [if_neg ek];exact ⟨z,hz,fun _ h=>h⟩
  ·simp only at hz ⊢;rw [getD_setO _ _ _ _ hlt'] at hz
   by_cases ek:k=a
   ·right;simp [ek]
   ·rw [if_neg ek] at hz;exact .inl hz
  ·rcases hc with ⟨e1,_⟩ | ⟨was,hwas,htg⟩
   ·subst e1;exact fun _ h=>h
   ·rw [htg];exact G.right _ _ (hr.2.1 _ _ hwas) hs
theorem leads_up (hm:Hier.may c=true) (G:Meets Γ c nl ns):∀ (l:List (Nat × State)){r:Run},RunOk c.length nl ns len r→(∀ p∈l,StOk c.length nl ns p.2)→Up Γ r (leads c r l)∧∀ p∈l,p.1 < len→Cov Γ (leads c r l) p.1 p.2:=by
 intro l
 induction l with
 | nil=>intro r hr _;exact ⟨Up.refl Γ r,fun p hp=>by cases hp⟩
 | cons p l ih =>
  intro r hr hl
  obtain ⟨u1,c1⟩:=lead_up Γ hm G hr (a:=p.1) (hl p (by simp))
  obtain ⟨u2,c2⟩:=ih (lead_ok hm hr (a:=p.1) (hl p (by simp))).1 (fun q hq=>hl q (by simp [hq]))
  refine ⟨Up.trans Γ u1 u2,fun q hq hlt=>?_⟩
  rcases List.mem_cons.1 hq with e | hq
  ·subst e;exact Cov.up Γ u2 (c1 hlt)
  ·exact c2 q hq hlt
theorem round_held (hm:Hier.may c=true) (G:Meets Γ c nl ns){one:One}(ho:OneOk c.length nl ns one){r:Run}(hr:RunOk c.length nl ns len r) (hh:Held Γ one len r):Held Γ one len (round c one r)∧Up Γ ⟨r.states,[],r.bad⟩ (round c one r):=by
 unfold round
 cases hl:r.work.getLast? with
 | none=>exact ⟨hh,fun k s h=>⟨s,h,fun _ h=>h⟩,fun k s h=>.inl h,fun k hk=>by cases hk⟩
 | some a =>
  have hw:=last_of hl;obtain ⟨_,s,hs⟩:=hr.2.2 a (by rw [hw];simp)
  simp only [hs,Option.getD_some];have hp:=popped hr (r.bad || !(one a s).1)
  have hso:=ho a s (hr.2.1 a s hs);obtain ⟨u,cv⟩:=leads_up Γ hm G (one a s).2 hp hso;have hbad:=(leads_ok hm (one a s).2 hp hso).2.2;refine ⟨fun k z hz=>?_,⟨u.1,u.2.1,fun k hk=>by cases hk⟩⟩
  rcases u.2.1 k z hz with h1 | h1
  ·simp only at h1
   by_cases ek:k=a
   ·subst ek;rw [hs] at h1;injection h1 with h1;subst h1
    right
    refine ⟨?_,cv⟩;rw [hbad]
    cases (one k s).1 <;> simp
   ·rcases hh k z h1 with h2 | ⟨h2,h3⟩
    ·left
     rw [hw] at h2
     rcases List.mem_append.1 h2 with h2 | h2
     ·exact u.2.2 k h2
     ·exact absurd (by simpa using h2) ek
    ·right
     refine ⟨?_,fun p hp' hlt=>?_⟩
     ·rw [hbad]
      rcases h2 with h2 | h2
      ·exact .inl h2
      ·right;simp [h2]
     ·obtain ⟨z',h4,h5⟩:=h3 p hp' hlt;exact Cov.up Γ u ⟨z',h4,h5⟩
  ·exact .inl h1
theorem iter_held (hm:Hier.may c=true) (G:Meets Γ c nl ns){one:One}(ho:OneOk c.length nl ns one):∀ (n:Nat){r:Run},RunOk c.length nl ns len r→Held Γ one len r→Held Γ one len (iter c one n r)∧∀ k s,r.states.getD k none=some s→Cov Γ (iter c one n r) k s:=by
 intro n
 induction n with
 | zero=>intro r _ hh;exact ⟨hh,fun k s h=>⟨s,h,fun _ h=>h⟩⟩
 | succ n ih =>
  intro r hr hh
  obtain ⟨h1,h2⟩:=round_held Γ hm G ho hr hh;obtain ⟨h3,h4⟩:=ih (round_ok hm ho hr).1 h1;refine ⟨h3,fun k s hs=>?_⟩;obtain ⟨z,h5,h6⟩:=h2.1 k s hs;obtain ⟨z',h7,h8⟩:=h4 k z h5;exact ⟨z',h7,fun x hx=>h8 x (h6 x hx)⟩
theorem fin_held (hm:Hier.may c=true) (G:Meets Γ c nl ns){one:One}(ho:OneOk c.length nl ns one){r:Run}(hr:RunOk c.length nl ns len r) (hh:Held Γ one len r) :
  (∀ k s,r.states.getD k none=some s→Cov Γ (fin c one nl ns r) k s) ∧
  ∀ k s,(fin c one nl ns r).states.getD k none=some s→((one k s).1=true∨(fin c one nl ns r).bad=true)∧∀ p∈(one k s).2,p.1 < len→Cov Γ (fin c one nl ns r) p.1 p.2:=by
 obtain ⟨h1,h2⟩:=iter_held Γ hm G ho (meas nl ns r) hr hh;have hw:=iter_fin hm ho (meas nl ns r) hr (Nat.le_refl _);refine ⟨h2,fun k s hs=>?_⟩
 rcases h1 k s hs with h | h
 ·rw [hw] at h;cases h
 ·exact h
end
end Flow
namespace Run
open D Num
def Ext (h h':Hp):Prop:=h.objs.length≤h'.objs.length∧∀ n:Int,0≤n→n < h.objs.length→(obj h' n).cls=(obj h n).cls
def Typed (l:List Cls) (h:Hp):Prop:=∀ o∈h.objs,∀ x∈o.held,ofT l h x.2 (ftype l x.1.1 x.1.2)=true
def RetT (l:List Cls) (m:Me) (h:Hp) (v:Vl):Prop:=m.ret.kind=0∨ofT l h v m.ret=true
theorem Ext.refl (h:Hp):Ext h h:=⟨Nat.le_refl _,fun _ _ _=>rfl⟩
theorem Ext.trans {a b c:Hp}(h:Ext a b) (k:Ext b c):Ext a c:=⟨Nat.le_trans h.1 k.1,fun n h0 h1=>(k.2 n h0 (by have:=h.1;omega)).trans (h.2 n h0 h1)⟩
theorem ext_of {h h':Hp}(e:h'.objs=h.objs):Ext h h':=by unfold Ext obj;rw [e];exact ⟨Nat.le_refl _,fun _ _ _=>rfl⟩
theorem typed_of {l:List Cls}{h h':Hp}(e:h'.objs=h.objs) (T:Typed l h):Typed l h':=by
 unfold Typed ofT obj at *;rw [e];exact T
theorem ofT_ext {l:List Cls}{h h':Hp}(e:Ext h h'){v:Vl}(hv:v.kind=3→v.n < h.objs.length) (t:Ty):ofT l h' v t=ofT l h v t:=by
 unfold ofT
 by_cases hk:v.kind=t.kind
 ·by_cases h3:t.kind=3
  ·by_cases hn:v.n < 0
   ·simp [hn]
   ·rw [e.2 v.n (by omega) (hv (by omega))]
  ·simp [h3]
 ·simp [hk]
section
variable {Fr:Type}(M:Mach Fr) (FrOk:Me→Nat→Fr→Prop) (FrT:Me→Hp→Fr→Prop) (f:Fi) (input:List Int) (fuel:Nat)
def ThrT (m:Me) (h:Hp) (fr:Fr):Prop:=∀ h' o,Ext h h'→o < h'.objs.length→after M f m fr o h'≠.stuck∧∀ fr',after M f m fr o h'=.go fr'→FrT m h' fr'
def ActT (m:Me) (h0:Hp):Act Fr→Prop
 | .go fr h=>Ext h0 h∧Typed f.classes h∧FrT m h fr
 | .back v h=>Ext h0 h∧Typed f.classes h∧RetT f.classes m h v
 | .thrown o h=>Ext h0 h∧Typed f.classes h
 | .stop e h=>e≠6
 | .call k args fr h=>Ext h0 h∧Typed f.classes h∧allOf f.classes h args (meAt f k).params=true∧ThrT M FrT f m h fr ∧
   ∀ v h',Ext h h'→RetOk (meAt f k) h'.objs.length v→RetT f.classes (meAt f k) h' v→∃ fr',M.resume m (meAt f k) fr v=some fr'∧FrT m h' fr'
structure MachT:Prop where
 step:∀ m∈f.methods,∀ fr h,HpOk f.classes input fuel h→h.out.length < h.steps→Typed f.classes h→FrOk m h.objs.length fr→FrT m h fr→∃ i,m.code[M.at_ fr]? = some i∧ActT M FrT f m h (M.step f input m i fr h)
 thr:∀ m∈f.methods,∀ fr h,FrOk m h.objs.length fr→FrT m h fr→ThrT M FrT f m h fr
 enter:∀ m∈f.methods,∀ h args,(∀ v∈args,VtOk h.objs.length v)→args.length=m.params.length→allOf f.classes h args m.params=true→FrT m h (M.enter m args)
 mono:∀ m∈f.methods,∀ fr h h',FrOk m h.objs.length fr→Ext h h'→FrT m h fr→FrT m h' fr
def CallT (m:Me) (h0:Hp):Res Vl→Prop
 | .ok v h=>Ext h0 h∧Typed f.classes h∧RetT f.classes m h v
 | .thrown o h=>Ext h0 h∧Typed f.classes h
 | .stop e h=>e≠6
variable {M FrOk FrT f input fuel}
theorem CallT.from {m:Me}{h0 h1:Hp}{r:Res Vl}(h:CallT f m h1 r) (e:Ext h0 h1):CallT f m h0 r:=by
 cases r with
 | ok v h'=>exact ⟨e.trans h.1,h.2⟩
 | thrown o h'=>exact ⟨e.trans h.1,h.2⟩
 | stop c h'=>exact h
theorem loop_safe (K:MachOk M FrOk f input fuel) (T:MachT M FrOk FrT f input fuel):∀ (g d:Nat) (m:Me) (fr:Fr) (h:Hp),m∈f.methods→HpOk f.classes input fuel h→Typed f.classes h→FrOk m h.objs.length fr→FrT m h fr→CallT f m h (loop M f input fuel g d m fr h):=by
 intro g
 induction g with
 | zero=>intro d m fr h hm H hT hf ht;exact (by decide:(0:Int)≠6)
 | succ g ih =>
  intro d m fr h hm H hT hf ht
  rw [loop]
  by_cases hs:fuel≤h.steps
  ·rw [if_pos hs];exact (by decide:(0:Int)≠6)
  ·rw [if_neg hs];have H1:=step_hp H (by omega)
   have hT1:Typed f.classes { h with steps:=h.steps+1 }:=typed_of (h:=h) (h':={ h with steps:=h.steps+1 }) rfl hT
   have ht1:=T.mono m hm fr h { h with steps:=h.steps+1 } hf (ext_of rfl) ht
   obtain ⟨i,hi,hact⟩:=T.step m hm fr _ H1 (by have:=H.outs;simp only;omega) hT1 hf ht1
   have hst:=K.step m hm i (List.mem_of_getElem? hi) fr _ H1 (by have:=H.outs;simp only;omega) hf
   have E0:Ext h { h with steps:=h.steps+1 }:=ext_of rfl
   have hthr:=T.thr m hm fr { h with steps:=h.steps+1 } hf ht1
   rw [hi];simp only
   cases hc:M.step f input m i fr { h with steps:=h.steps+1 } with
   | stop e h'=>rw [hc] at hact;exact hact
   | back v h'=>rw [hc] at hact;exact ⟨E0.trans hact.1,hact.2⟩
   | go fr' h' =>
    rw [hc] at hact hst;obtain ⟨⟨a,b,c⟩,e⟩:=hst;exact (ih d m fr' h' hm a hact.2.1 e hact.2.2).from (E0.trans hact.1)
   | thrown o h' =>
    rw [hc] at hact hst;obtain ⟨⟨a,b,c⟩,e⟩:=hst;simp only;obtain ⟨t1,t2⟩:=hthr h' o hact.1 e
    cases hn:after M f m fr o h' with
    | go fr'=>exact (ih d m fr' h' hm a hact.2 (after_go K hm e a (K.mono _ _ _ _ b hf) hn) (t2 fr' hn)).from (E0.trans hact.1)
    | thrown=>exact ⟨E0.trans hact.1,hact.2⟩
    | stuck=>exact absurd hn t1
   | call k args fr' h' =>
    rw [hc] at hact hst;obtain ⟨⟨a,b,c⟩,e,hv,hl,hk⟩:=hst;obtain ⟨E1,hT2,hall,hthr2,hres⟩:=hact;simp only at b c;simp only;rw [if_neg (by rw [hall];simp)]
    by_cases hd:20≤d
    ·rw [if_pos hd];exact (by decide:(5:Int)≠6)
    ·rw [if_neg hd];have hmk:=meAt_mem hk;have hen:=K.enter _ hmk _ args hv hl (fun i hi=>allOf_kind args _ hall i hi (by omega))
     have hin:=loop_ok K g (d+1) (meAt f k) (M.enter (meAt f k) args) h' hmk a hen;have hin2:=ih (d+1) (meAt f k) (M.enter (meAt f k) args) h' hmk a hT2 hen (T.enter _ hmk h' args hv hl hall)
     cases hr:loop M f input fuel g (d+1) (meAt f k) (M.enter (meAt f k) args) h' with
     | stop e' h2=>rw [hr] at hin2;exact hin2
     | ok v h2 =>
      rw [hr] at hin hin2;obtain ⟨⟨p,q,r⟩,s⟩:=hin;obtain ⟨E2,hT3,hrt⟩:=hin2;simp only;obtain ⟨fr2,hre,hft⟩:=hres v h2 E2 s hrt;rw [hre];exact (ih d m fr2 h2 hm p hT3 (K.resume m hm _ _ _ _ _ (K.mono _ _ _ _ q e) s hre) hft).from (E0.trans (E1.trans E2))
     | thrown o h2 =>
      rw [hr] at hin hin2;obtain ⟨⟨p,q,r⟩,s⟩:=hin;obtain ⟨E2,hT3⟩:=hin2;simp only;obtain ⟨t1,t2⟩:=hthr2 h2 o E2 s
      cases hn:after M f m fr' o h2 with
      | go fr2=>exact (ih d m fr2 h2 hm p hT3 (after_go K hm s p (K.mono _ _ _ _ q e) hn) (t2 fr2 hn)).from (E0.trans (E1.trans E2))
      | thrown=>exact ⟨E0.trans (E1.trans E2),hT3⟩
      | stuck=>exact absurd hn t1
theorem call_safe (K:MachOk M FrOk f input fuel) (T:MachT M FrOk FrT f input fuel) (g d:Nat) (m:Me) (args:List Vl) (h:Hp) (hm:m∈f.methods) (H:HpOk f.classes input fuel h) (hT:Typed f.classes h) (hv:∀ v∈args,VtOk h.objs.length v) (hl:args.length=m.params.length) (hall:allOf f.classes h args m.params=true):CallT f m h (call M f input fuel g d m args h):=by
 unfold call;rw [if_neg (by rw [hall];simp)]
 split
 ·exact (by decide:(5:Int)≠6)
 ·exact loop_safe K T g (d+1) m _ h hm H hT (K.enter m hm _ args hv hl (fun i hi=>allOf_kind args _ hall i hi (by omega))) (T.enter m hm h args hv hl hall)
end
def ResT {α:Type}(l:List Cls) (h0:Hp) (R:α→Hp→Prop):Res α→Prop
 | .ok a h=>Ext h0 h∧Typed l h∧R a h
 | .thrown o h=>Ext h0 h∧Typed l h
 | .stop e h=>e≠6
section
variable {l:List Cls}{input:List Int}{fuel:Nat}{h:Hp}
theorem zero_of (h:Hp) (t:Ty):ofT l h (zero t) t=true:=by
 unfold zero ofT
 by_cases h3:t.kind=3
 ·rw [if_pos h3];simp [h3]
 ·rw [if_neg h3];simp [h3]
theorem fresh_zero (c:Int):∀ x∈fresh l c,x.2=zero (ftype l x.1.1 x.1.2):=by
 intro x hx
 unfold fresh at hx;obtain ⟨k,hk,hx⟩:=List.mem_flatMap.1 hx
 split at hx
 ·unfold fieldsOf at hx;obtain ⟨j,hj,rfl⟩:=List.mem_map.1 hx;simp only [ftype,Int.toNat_natCast]
 ·cases hx
theorem ob_in {n:Nat}{o:Ob}(ho:ObOk l n o){x:(Int × Int) × Vl}(hx:x∈o.held):x.2.kind=3→x.2.n < n:=fun h3=>((ho.vals x hx).1.2.2.2 h3).2
theorem new_t (H:HpOk l input fuel h) (T:Typed l h) (c:Int):ResT l h (fun v h'=>v.kind=3∧Hier.is l (obj h' v.n).cls c=Hier.is l c c) (new l c h):=by
 unfold new
 split
 ·exact (by decide:(4:Int)≠6)
 ·have E:Ext h { h with objs:=h.objs++[⟨c,fresh l c⟩] }:=by
   refine ⟨by simp,fun n h0 h1=>?_⟩
   unfold obj;simp only;rw [List.getD_eq_getElem?_getD,List.getD_eq_getElem?_getD,List.getElem?_append_left (by omega)]
  refine ⟨E,fun o ho x hx=>?_,rfl,?_⟩
  ·rcases List.mem_append.1 ho with ho | ho
   ·rw [ofT_ext E (ob_in (H.obs o ho) hx)];exact T o ho x hx
   ·have:o=⟨c,fresh l c⟩:=by simpa using ho
    subst this;rw [fresh_zero c x hx];exact zero_of _ _
  ·unfold obj;simp only [Int.toNat_natCast];rw [List.getD_eq_getElem?_getD,List.getElem?_append_right (Nat.le_refl _)]
   simp
theorem raise_t {α:Type}{R:α→Hp→Prop}(H:HpOk l input fuel h) (T:Typed l h) (c:Int):ResT l h R (raise l c h:Res α):=by
 have:=new_t H T c
 unfold raise
 cases hn:new l c h with
 | ok v h'=>rw [hn] at this;exact ⟨this.1,this.2.1⟩
 | thrown o h'=>rw [hn] at this;exact this
 | stop e h'=>rw [hn] at this;exact this
theorem throw_t {α:Type}{R:α→Hp→Prop}(H:HpOk l input fuel h) (T:Typed l h){v:Vl}(hv:v.kind=3):ResT l h R (throw l v h:Res α):=by
 unfold throw;rw [if_neg (by omega)]
 split
 ·exact raise_t H T _
 ·exact ⟨Ext.refl _,T⟩
theorem get_t (H:HpOk l input fuel h) (T:Typed l h){v:Vl}(hv:VlOk h.objs.length v){c k:Int}(ho:ofT l h v ⟨3,c⟩=true) (hc:0≤c∧c < l.length) (hk:0≤k∧k < ((Hier.at' l c.toNat).fields.length:Int)):ResT l h (fun x h'=>h'=h∧ofT l h x (ftype l c k)=true) (get l v c k h):=by
 unfold get;rw [if_neg (by rw [ho];simp)]
 obtain ⟨h3,h4⟩:=of_ref ho
 split
 ·exact raise_t H T _
 ·rename_i hn
  have hvn:=hv.2.2.2 h3;have hmo:=obj_mem (h:=h) (n:=v.n) (by omega) (by omega)
  have hO:=H.obs _ hmo
  have hi:Hier.is l (obj h v.n).cls c=true:=by
                                                       rcases h4 with h4 | h4;· omega
                                                       · exact h4
  have hmem:=fresh_has hc hi hk;rw [← hO.keys] at hmem;obtain ⟨x,hx,e1,e⟩:=find_mem hmem;refine ⟨Ext.refl _,T,rfl,?_⟩;rw [e]
  have:=T _ hmo x hx
  rw [e1] at this;exact this
theorem put_t (H:HpOk l input fuel h) (T:Typed l h){r v:Vl}(hr:VlOk h.objs.length r) (hvv:VlOk h.objs.length v){c k:Int}(ho:ofT l h v (ftype l c k)=true) (hor:ofT l h r ⟨3,c⟩=true):ResT l h (fun _ _=>True) (put l r c k v (ftype l c k) h):=by
 unfold put;rw [if_neg (by rw [ho];simp),if_neg (by rw [hor];simp)]
 obtain ⟨h3,h4⟩:=of_ref hor
 split
 ·exact raise_t H T _
 ·have hvn:=hr.2.2.2 h3;have hmo:=obj_mem (h:=h) (n:=r.n) (by omega) (by omega)
  have E:Ext h { h with objs:=h.objs.set r.n.toNat ⟨(obj h r.n).cls,become (obj h r.n).held (c,k) v⟩ }:=by
   refine ⟨by simp,fun n h0 h1=>?_⟩
   unfold obj;simp only;simp only [List.getD_eq_getElem?_getD];rw [List.getElem?_set]
   by_cases e:r.n.toNat=n.toNat
   ·rw [if_pos e,if_pos (by omega)]
    simp only [Option.getD_some];rw [e]
   ·rw [if_neg e]
  refine ⟨E,fun o hm x hx=>?_,trivial⟩
  rcases List.mem_or_eq_of_mem_set hm with hm | hm
  ·rw [ofT_ext E (ob_in (H.obs o hm) hx)];exact T o hm x hx
  ·subst hm;simp only at hx;unfold become at hx;obtain ⟨y,hy,rfl⟩:=List.mem_map.1 hx
   split
   ·rw [ofT_ext E (fun e=>(hvv.2.2.2 e).2)];exact ho
   ·rw [ofT_ext E (ob_in (H.obs _ hmo) hy)];exact T _ hmo y hy
theorem cast_t (H:HpOk l input fuel h) (T:Typed l h){v:Vl}(hv:v.kind=3) (c:Int):ResT l h (fun _ h'=>h'=h∧ofT l h v ⟨3,c⟩=true) (cast l v c h):=by
 unfold cast;rw [if_neg (by omega)]
 split
 ·exact raise_t H T _
 ·rename_i hn;exact ⟨Ext.refl _,T,rfl,by simpa using hn⟩
theorem isV_t (T:Typed l h){v:Vl}(hv:v.kind=3) (c:Int):ResT l h (fun x h'=>h'=h∧x.kind=1) (isV l v c h):=by
 unfold isV;rw [if_neg (by omega)]
 exact ⟨Ext.refl _,T,rfl,rfl⟩
theorem reckon_t (H:HpOk l input fuel h) (T:Typed l h){a b:Vl}{kind:Int}(ha:a.kind=kind) (hb:b.kind=kind) (op:Int):ResT l h (fun x h'=>h'=h∧x.kind=kind) (reckon l a b kind op h):=by
 unfold reckon;rw [if_neg (by omega)]
 split
 ·exact raise_t H T _
 ·exact ⟨Ext.refl _,T,rfl,rfl⟩
theorem emit_t (T:Typed l h){v:Vl}{kind:Int}(hv:v.kind=kind):ResT l h (fun _ h'=>h'.objs=h.objs) (emit v kind h):=by
 unfold emit;rw [if_neg (by omega)]
 exact ⟨ext_of rfl,typed_of (h:=h) rfl T,rfl⟩
theorem takeIn_t (T:Typed l h) (input:List Int):ResT l h (fun x h'=>h'.objs=h.objs∧x.kind=2) (takeIn input h):=by
 unfold takeIn
 split
 ·exact (by decide:(3:Int)≠6)
 ·exact ⟨ext_of rfl,typed_of (h:=h) rfl T,rfl,rfl⟩
end
end Run
namespace Chk
open D Num Flow
def last (s:State):Ty:=s.stack.getLast?.getD none_
def pop (s:State):State:=⟨s.slots,s.stack.dropLast,s.broken⟩
def any (s:State) (k:Ty→State→Option State):Option State:=if s.stack=[] then none else k (last s) (pop s)
def take (c:List Cls) (t:Ty) (s:State) (k:State→Option State):Option State:=any s fun x s=>if fits c x t then k s else none
def put (m:Me) (s:State) (x:Ty):Option State:=if (Form.slots (s.stack++[x]):Int)≤m.stack then some ⟨s.slots,s.stack++[x],s.broken⟩ else none
def takes (c:List Cls):List Ty→State→(State→Option State)→Option State
 | [],s,k=>k s
 | t :: ts,s,k=>take c t s fun s=>takes c ts s k
def d4 (m:Me) (i:Ins) (s:State):Option State:=if loadB s.slots i.a.toNat i.b then put m s (loadV s.slots i.a.toNat i.b) else none
def okS (c:List Cls) (x:Ty) (k:Int):Bool:=if k=3 then fits c x ⟨3,0⟩ else decide (x.kind=k)
def d5 (c:List Cls) (i:Ins) (s:State):Option State:=any s fun x s=>if okS c x i.b then some ⟨Flow.store s.slots i.a.toNat x,s.stack,s.broken⟩ else none
def d67 (c:List Cls) (m:Me) (k:Int) (s:State):Option State:=take c ⟨k,0⟩ s fun s=>take c ⟨k,0⟩ s fun s=>put m s ⟨k,0⟩
def d10 (c:List Cls) (m:Me) (s:State):Option State:=take c ⟨2,0⟩ s fun s=>take c ⟨2,0⟩ s fun s=>put m s ⟨1,0⟩
def d19 (f:Fi) (m:Me) (i:Ins) (s:State):Option State:=takes f.classes (meRef f i).params.reverse s fun s=>if (meRef f i).ret.kind=0 then some s else put m s (meRef f i).ret
where meRef (f:Fi) (i:Ins):Me:=Run.meAt f i.a.toNat
def does (f:Fi) (m:Me) (i:Ins) (s:State):Option State :=
 if i.op=1 then put m s ⟨1,0⟩
 else if i.op=2∨i.op=25 then put m s ⟨2,0⟩
 else if i.op=3 then put m s ⟨7,0⟩
 else if i.op=4 then d4 m i s
 else if i.op=5 then d5 f.classes i s
 else if i.op=6 then d67 f.classes m 1 s
 else if i.op=7 then d67 f.classes m 2 s
 else if i.op=8 then take f.classes ⟨1,0⟩ s fun s=>put m s ⟨2,0⟩
 else if i.op=9 then take f.classes ⟨2,0⟩ s fun s=>put m s ⟨1,0⟩
 else if i.op=10 then d10 f.classes m s
 else if i.op=12 then take f.classes ⟨1,0⟩ s some
 else if i.op=22 then any s fun _ s=>some s
 else if i.op=23 then any s fun x s=>(put m s x).bind fun s=>put m s x
 else if i.op=24 then take f.classes ⟨i.a,0⟩ s some
 else if i.op=13∨i.op=21 then take f.classes ⟨3,0⟩ s some
 else if i.op=14 then put m s ⟨3,i.a⟩
 else if i.op=15 then take f.classes ⟨3,i.a⟩ s fun s=>put m s (Run.ftype f.classes i.a i.b)
 else if i.op=16 then take f.classes (Run.ftype f.classes i.a i.b) s fun s=>take f.classes ⟨3,i.a⟩ s some
 else if i.op=17 then take f.classes ⟨3,0⟩ s fun s=>put m s ⟨3,i.a⟩
 else if i.op=18 then take f.classes ⟨3,0⟩ s fun s=>put m s ⟨1,0⟩
 else if i.op=19 then d19 f m i s
 else if i.op=20 then (if m.ret.kind=0 then some s else take f.classes m.ret s some)
 else some s
def nexts (i:Ins) (a:Nat):List Nat :=
 if i.op=11 then [i.a.toNat] else if i.op=12∨i.op=13 then [a+1,i.a.toNat] else if i.op=20∨i.op=21 then [] else [a+1]
def nilIns:Ins:=⟨0,0,0,0,0,[]⟩
def insAt (m:Me) (a:Nat):Ins:=m.code.getD a nilIns
def goes (f:Fi) (m:Me) (a:Nat) (s:State):Option State :=
 if s.broken then none else (does f m (insAt m a) s).bind fun s'=>if (nexts (insAt m a) a).all (fun k=>decide (k < m.code.length)) then some s' else none
def covers (h:Hd) (a:Nat):Bool:=decide (h.lo≤a) && decide ((a:Int) < h.hi)
def hstate (m:Me) (s:State) (ok:Bool) (h:Hd):State:=if ok=false∨m.stack=0 then State.bad else ⟨s.slots,[⟨3,h.cls⟩],false⟩
def one (f:Fi) (m:Me):One:=fun a s =>
 ((goes f m a s).isSome,((nexts (insAt m a) a).map fun k=>(k,(goes f m a s).getD State.bad))++((m.handlers.filter fun h=>covers h a).map fun h=>(h.go.toNat,hstate m s (goes f m a s).isSome h)))
def tstores:List Ty→Nat→List Ty→List Ty
 | l,_,[]=>l
 | l,a,t :: ts=>tstores (Flow.store l a t) (a+(if t.kind=2 then 2 else 1)) ts
def start (m:Me):State:=⟨tstores (List.replicate m.locals.toNat none_) 0 m.params,[],false⟩
def run0 (f:Fi) (m:Me):Flow.Run:=lead f.classes ⟨List.replicate m.code.length none,[],false⟩ 0 (start m)
def final (f:Fi) (m:Me):Flow.Run:=fin f.classes (one f m) m.locals.toNat m.stack.toNat (run0 f m)
def okMe (f:Fi) (m:Me):Bool:=!(final f m).bad
theorem getD_set (l:List Ty) (j i:Nat) (x:Ty):(l.set j x).getD i none_=if i=j∧j < l.length then x else l.getD i none_:=by
 rw [List.getD_eq_getElem?_getD,List.getD_eq_getElem?_getD,List.getElem?_set]
 by_cases e:j=i
 ·subst e
  by_cases h:j < l.length
  ·simp [h]
  ·simp [h]
 ·have e':¬ i=j:=fun h=>e h.symm;simp [e,e']
theorem getD_out {l:List Ty}{i:Nat}(h:l.length≤i):l.getD i none_=none_:=by
 rw [List.getD_eq_getElem?_getD,List.getElem?_eq_none h];rfl
theorem set_none (l:List Ty) (j i:Nat):(l.set j none_).getD i none_=if i=j then none_ else l.getD i none_:=by
 rw [getD_set]
 by_cases e:i=j
 ·subst e
  by_cases h:i < l.length
  ·simp [h]
  ·rw [if_neg (by omega),if_pos rfl,getD_out (by omega)]
 ·rw [if_neg (by omega),if_neg e]
theorem lose_len (l:List Ty) (a:Nat):(lose l a).length=l.length:=by
 unfold lose;split
 ·simp
 ·split <;> simp
theorem store_len (l:List Ty) (a:Nat) (v:Ty):(Flow.store l a v).length=l.length:=by
 unfold Flow.store;split <;> simp [lose_len]
theorem lose_getD (l:List Ty) (a i:Nat):(lose l a).getD i none_=if i=a∨(kd l a=6∧i+1=a)∨(kd l a=5∧i=a+1) then none_ else l.getD i none_:=by
 unfold lose
 by_cases h5:kd l a=5
 ·rw [if_pos h5,set_none,set_none]
  by_cases e:i=a
  ·rw [if_pos e,if_pos (.inl e)]
  ·rw [if_neg e]
   by_cases e2:i=a+1
   ·rw [if_pos e2,if_pos (.inr (.inr ⟨h5,e2⟩))]
   ·rw [if_neg e2,if_neg (by omega)]
 ·rw [if_neg h5]
  by_cases h6:kd l a=6
  ·rw [if_pos h6,set_none,set_none]
   by_cases e:i=a
   ·rw [if_pos e,if_pos (.inl e)]
   ·rw [if_neg e]
    by_cases e2:i+1=a
    ·rw [if_pos (by omega),if_pos (.inr (.inl ⟨h6,e2⟩))]
    ·rw [if_neg (by omega),if_neg (by omega)]
  ·rw [if_neg h6,set_none]
   by_cases e:i=a
   ·rw [if_pos e,if_pos (.inl e)]
   ·rw [if_neg e,if_neg (by omega)]
theorem lose_kd (l:List Ty) (a i:Nat):kd (lose l a) i=if i=a∨(kd l a=6∧i+1=a)∨(kd l a=5∧i=a+1) then 0 else kd l i:=by
 unfold kd;rw [lose_getD];unfold kd
 split <;> rfl
theorem lose_paired {l:List Ty}(h:Paired l) (a:Nat):Paired (lose l a):=by
 obtain ⟨hA,hB⟩:=h;have a1:=hA a;have b1:=hB a;refine ⟨fun i hi=>?_,fun i hi=>?_⟩
 ·rw [lose_kd] at hi ⊢
  split at hi
  ·omega
  ·rename_i hn
   have:=hA i hi
   rw [if_neg,this];rintro (e | ⟨e1,e2⟩ | ⟨e1,e2⟩)
   ·subst e;exact hn (.inr (.inl ⟨this,rfl⟩))
   ·have:=(b1 e1).2
    rw [show a - 1=i+1 by omega] at this
    omega
   ·exact hn (.inl (by omega))
 ·rw [lose_kd] at hi
  split at hi
  ·omega
  ·rename_i hn
   have hb:=hB i hi;rw [lose_kd];refine ⟨hb.1,?_⟩;rw [if_neg,hb.2];rintro (e | ⟨e1,e2⟩ | ⟨e1,e2⟩)
   ·have h2:=hb.2;rw [e] at h2;exact hn (.inr (.inr ⟨h2,by omega⟩))
   ·exact hn (.inl (by omega))
   ·have:=a1 e1
    rw [show i - 1=a+1 by omega] at hb
    omega
theorem kd_set (l:List Ty) (j i:Nat) (x:Ty):kd (l.set j x) i=if i=j∧j < l.length then x.kind else kd l i:=by
 unfold kd;rw [getD_set];split <;> rfl
theorem store_paired {l:List Ty}(h:Paired l){a:Nat}{x:Ty}(hx:x.kind≠5∧x.kind≠6) (ha:a < l.length) (ha2:x.kind=2→a+1 < l.length):Paired (Flow.store l a x):=by
 unfold Flow.store
 by_cases h2:x.kind=2
 ·rw [if_neg (by simpa using h2)]
  have hl:=lose_paired (lose_paired h a) (a+1);have ha2:=ha2 h2
  have k0:kd (lose (lose l a) (a+1)) a=0:=by
   rw [lose_kd]
   split
   ·rfl
   ·rw [lose_kd,if_pos (.inl rfl)]
  have k1:kd (lose (lose l a) (a+1)) (a+1)=0:=by rw [lose_kd,if_pos (.inl rfl)]
  have hlen:(lose (lose l a) (a+1)).length=l.length:=by rw [lose_len,lose_len]
  generalize lose (lose l a) (a+1)=q at *
  obtain ⟨hA,hB⟩:=hl;refine ⟨fun i hi=>?_,fun i hi=>?_⟩
  ·rw [kd_set,kd_set] at hi ⊢;simp only [List.length_set] at hi ⊢
   by_cases e:i=a
   ·subst e;rw [if_pos (by omega)]
   ·by_cases e1:i=a+1
    ·rw [if_pos (by omega)] at hi;simp at hi
    ·rw [if_neg (by omega),if_neg (by omega)] at hi
     have:=hA i hi
     rw [if_neg (by omega),if_neg,this]
     rintro ⟨e2,_⟩;rw [e2,k0] at this;omega
  ·rw [kd_set,kd_set] at hi;simp only [List.length_set] at hi
   by_cases e1:i=a+1
   ·subst e1;rw [kd_set,kd_set];simp only [List.length_set];rw [if_neg (by omega),if_pos (by omega)]
    exact ⟨by omega,rfl⟩
   ·rw [if_neg (by omega)] at hi
    by_cases e:i=a
    ·subst e;rw [if_pos (by omega)] at hi;simp at hi
    ·rw [if_neg (by omega)] at hi
     have:=hB i hi
     rw [kd_set,kd_set];simp only [List.length_set];refine ⟨this.1,?_⟩;rw [if_neg,if_neg,this.2]
     ·rintro ⟨e2,_⟩;have h3:=this.2;rw [e2,k0] at h3;omega
     ·rintro ⟨e2,_⟩;have h3:=this.2;rw [e2,k1] at h3;omega
 ·rw [if_pos (by simpa using h2)]
  have hl:=lose_paired h a;have k0:kd (lose l a) a=0:=by rw [lose_kd,if_pos (.inl rfl)]
  generalize lose l a=q at *
  obtain ⟨hA,hB⟩:=hl;refine ⟨fun i hi=>?_,fun i hi=>?_⟩
  ·rw [kd_set] at hi ⊢
   split at hi
   ·omega
   ·have:=hA i hi
    rw [if_neg,this];rintro ⟨e,_⟩;rw [e,k0] at this;omega
  ·rw [kd_set] at hi
   split at hi
   ·omega
   ·have:=hB i hi
    rw [kd_set,if_neg]
    ·exact this
    ·rintro ⟨e,_⟩;have h3:=this.2;rw [e,k0] at h3;omega
theorem mem_set {l:List Ty}{j:Nat}{x y:Ty}(h:y∈l.set j x):y=x∨y∈l:=by
 rcases List.mem_or_eq_of_mem_set h with h | h
 ·exact .inr h
 ·exact .inl h
theorem wf_set {n:Nat}{l:List Ty}(h:WfL n l){x:Ty}(hx:Wf n x) (j:Nat):WfL n (l.set j x):=fun y hy=>by
 rcases mem_set hy with e | e
 ·subst e;exact hx
 ·exact h y e
theorem lose_wf {n:Nat}{l:List Ty}(h:WfL n l) (a:Nat):WfL n (lose l a):=by
 unfold lose
 split
 ·exact wf_set (wf_set h (wf_none n) _) (wf_none n) _
 ·split
  ·exact wf_set (wf_set h (wf_none n) _) (wf_none n) _
  ·exact wf_set h (wf_none n) _
theorem store_wf {n:Nat}{l:List Ty}(h:WfL n l){x:Ty}(hx:Wf n x) (a:Nat):WfL n (Flow.store l a x):=by
 unfold Flow.store
 split
 ·exact wf_set (lose_wf h a) hx _
 ·exact wf_set (wf_set (lose_wf (lose_wf h a) _) ⟨fun e=>by simp at e,fun _=>rfl⟩ _) ⟨fun e=>by simp at e,fun _=>rfl⟩ _
end Chk
namespace Chk
open D Num Flow
structure Gd (n nl ns:Nat) (s:State):Prop where
 live:s.broken=false
 len:s.slots.length=nl
 few:s.stack.length≤ns
 slots:WfL n s.slots
 stack:WfL n s.stack
 pair:Paired s.slots
theorem Gd.ok {n nl ns:Nat}{s:State}(h:Gd n nl ns s):StOk n nl ns s:=⟨fun e=>absurd e (by rw [h.live];simp),fun _=>⟨h.len,h.few,h.slots,h.stack,h.pair⟩⟩
theorem gd_of {n nl ns:Nat}{s:State}(h:StOk n nl ns s) (hl:s.broken=false):Gd n nl ns s:=⟨hl,(h.2 hl).1,(h.2 hl).2.1,(h.2 hl).2.2.1,(h.2 hl).2.2.2.1,(h.2 hl).2.2.2.2⟩
theorem len_slots:∀ l:List Ty,l.length≤Form.slots l:=by
 intro l
 induction l with
 | nil=>exact Nat.le_refl _
 | cons t l ih=>simp only [List.length_cons,Form.slots];split <;> omega
theorem last_mem {s:State}(h:s.stack≠[]):last s∈s.stack:=by
 unfold last;rw [List.getLast?_eq_some_getLast h];exact List.getLast_mem h
theorem pop_gd {n nl ns:Nat}{s:State}(h:Gd n nl ns s):Gd n nl ns (pop s):=⟨h.live,h.len,by have:=h.few;simp only [pop,List.length_dropLast];omega,h.slots,fun x hx=>h.stack x (List.dropLast_subset _ hx),h.pair⟩
theorem any_gd {n nl ns:Nat}{s r:State}(h:Gd n nl ns s){k:Ty→State→Option State}(he:any s k=some r) (hk:∀ x s,Wf n x→Gd n nl ns s→k x s=some r→Gd n nl ns r):Gd n nl ns r:=by
 unfold any at he
 split at he
 ·cases he
 ·rename_i hne
  exact hk _ _ (h.stack _ (last_mem hne)) (pop_gd h) he
theorem take_gd {c:List Cls}{n nl ns:Nat}{t:Ty}{s r:State}(h:Gd n nl ns s){k:State→Option State}(he:take c t s k=some r) (hk:∀ s,Gd n nl ns s→k s=some r→Gd n nl ns r):Gd n nl ns r:=by
 refine any_gd h he (fun x s _ hs e=>?_)
 split at e
 ·exact hk s hs e
 ·cases e
theorem takes_gd {c:List Cls}{n nl ns:Nat}{r:State}{k:State→Option State}(hk:∀ s,Gd n nl ns s→k s=some r→Gd n nl ns r):∀ (ts:List Ty){s:State},Gd n nl ns s→takes c ts s k=some r→Gd n nl ns r:=by
 intro ts
 induction ts with
 | nil=>intro s h he;exact hk s h he
 | cons t ts ih=>intro s h he;exact take_gd h he (fun s hs e=>ih hs e)
theorem put_gd {n nl:Nat}{m:Me}{s r:State}{x:Ty}(h:Gd n nl m.stack.toNat s) (hx:Wf n x) (he:put m s x=some r):Gd n nl m.stack.toNat r:=by
 unfold put at he
 split at he
 ·rename_i hs
  injection he with he
  subst he;refine ⟨h.live,h.len,?_,h.slots,fun y hy=>?_,h.pair⟩
  ·have:=len_slots (s.stack++[x])
   simp only;omega
  ·rcases List.mem_append.1 hy with hy | hy
   ·exact h.stack y hy
   ·have:y=x:=by simpa using hy
    subst this;exact hx
 ·cases he
theorem wf_flat (n:Nat) (k:Int) (hk:k≠3):Wf n ⟨k,0⟩:=⟨fun e=>absurd e hk,fun _=>rfl⟩
theorem wf_ref {n:Nat}{c:Int}(h:0≤c∧c < n):Wf n ⟨3,c⟩:=⟨fun _=>h,fun e=>absurd rfl e⟩
theorem wf_ty {n:Nat}{t:Ty}(h:Hier.ty n t=true):Wf n t∧(t.kind=1∨t.kind=2∨t.kind=3):=by
 unfold Hier.ty at h
 split at h
 ·rename_i e;exact ⟨⟨fun e3=>by omega,fun _=>by simpa using h⟩,by omega⟩
 ·split at h
  ·rename_i e;exact ⟨⟨fun _=>by simpa using h,fun e3=>absurd e e3⟩,by omega⟩
  ·cases h
theorem ftype_ty {l:List Cls}(hm:Hier.may l=true){a b:Int}(ha:0≤a∧a < l.length) (hb:0≤b∧b < Form.nf l a):Hier.ty l.length (Run.ftype l a b)=true:=by
 have:=List.all_eq_true.1 (Run.may_fields hm (c:=a.toNat) (by omega))
 unfold Form.nf at hb;unfold Run.ftype;rw [List.getD_eq_getElem?_getD,List.getElem?_eq_getElem (by omega)]
 exact this _ (List.getElem_mem _)
theorem load_wf {n:Nat}{l:List Ty}(h:WfL n l) (a:Nat) (k:Int):Wf n (loadV l a k):=by
 unfold loadV
 split
 ·exact wf_flat n 2 (by decide)
 ·by_cases ha:a < l.length
  ·rw [List.getD_eq_getElem?_getD,List.getElem?_eq_getElem ha];exact h _ (List.getElem_mem ha)
  ·rw [getD_out (by omega)];exact wf_none n
theorem okS_kind {c:List Cls}{x:Ty}{k:Int}(h:okS c x k=true) (hk:1≤k∧k≤3):(k=3∧(x.kind=7∨x.kind=3))∨(k≠3∧x.kind=k):=by
 unfold okS at h
 split at h
 ·rename_i e
  left
  refine ⟨e,?_⟩;unfold fits at h;rw [if_pos rfl] at h;simp only [Bool.or_eq_true,Bool.and_eq_true,decide_eq_true_eq] at h
  rcases h with h | h
  ·exact .inl h
  ·exact .inr h.1
 ·rename_i e;exact .inr ⟨e,by simpa using h⟩
section
variable {f:Fi}{m:Me}{i:Ins}{s r:State}
theorem ret_ty (M:Run.MeS f m) (h:m.ret.kind≠0):Hier.ty f.classes.length m.ret=true:=by
 have:=M.ret
 unfold Form.ret at this;simp only [Bool.or_eq_true,decide_eq_true_eq] at this
 rcases this with e | e
 ·exact absurd e.1 h
 ·exact e
theorem does_gd (S:Run.FiS f) (M:Run.MeS f m) (hi:Run.InS f m i) (h:Gd f.classes.length m.locals.toNat m.stack.toNat s) (he:does f m i s=some r):Gd f.classes.length m.locals.toNat m.stack.toNat r:=by
 have hsome:∀ {s:State},Gd f.classes.length m.locals.toNat m.stack.toNat s→some s=some r→Gd f.classes.length m.locals.toNat m.stack.toNat r:=fun h e=>by injection e with e;subst e;exact h
 unfold does at he
 by_cases q:i.op=1
 ·rw [if_pos q] at he;exact put_gd h (wf_flat _ 1 (by decide)) he
 rw [if_neg q] at he;clear q
 by_cases q:i.op=2∨i.op=25
 ·rw [if_pos q] at he;exact put_gd h (wf_flat _ 2 (by decide)) he
 rw [if_neg q] at he;clear q
 by_cases q:i.op=3
 ·rw [if_pos q] at he;exact put_gd h (wf_flat _ 7 (by decide)) he
 rw [if_neg q] at he;clear q
 by_cases q:i.op=4
 ·rw [if_pos q] at he;unfold d4 at he
  split at he
  ·exact put_gd h (load_wf h.slots _ _) he
  ·cases he
 rw [if_neg q] at he;clear q
 by_cases q:i.op=5
 ·rw [if_pos q] at he;obtain ⟨hb,ha0,ha1⟩:=hi.slot (.inr q);refine any_gd h he (fun x s hx hs e=>?_)
  split at e
  ·rename_i ho
   injection e with e
   subst e;have hk:=okS_kind ho hb;have h1:i.a.toNat < s.slots.length:=by rw [hs.len];unfold Form.wide at ha1;split at ha1 <;> omega
   have h2:x.kind=2→i.a.toNat+1 < s.slots.length:=fun e2=>by rw [hs.len];unfold Form.wide at ha1;rw [if_pos (by omega)] at ha1;omega
   exact ⟨hs.live,by simp only [store_len];exact hs.len,hs.few,store_wf hs.slots hx _,hs.stack,store_paired hs.pair (by omega) h1 h2⟩
  ·cases e
 rw [if_neg q] at he;clear q
 by_cases q:i.op=6
 ·rw [if_pos q] at he;exact take_gd h he (fun s hs e=>take_gd hs e (fun s hs e=>put_gd hs (wf_flat _ 1 (by decide)) e))
 rw [if_neg q] at he;clear q
 by_cases q:i.op=7
 ·rw [if_pos q] at he;exact take_gd h he (fun s hs e=>take_gd hs e (fun s hs e=>put_gd hs (wf_flat _ 2 (by decide)) e))
 rw [if_neg q] at he;clear q
 by_cases q:i.op=8
 ·rw [if_pos q] at he;exact take_gd h he (fun s hs e=>put_gd hs (wf_flat _ 2 (by decide)) e)
 rw [if_neg q] at he;clear q
 by_cases q:i.op=9
 ·rw [if_pos q] at he;exact take_gd h he (fun s hs e=>put_gd hs (wf_flat _ 1 (by decide)) e)
 rw [if_neg q] at he;clear q
 by_cases q:i.op=10
 ·rw [if_pos q] at he;exact take_gd h he (fun s hs e=>take_gd hs e (fun s hs e=>put_gd hs (wf_flat _ 1 (by decide)) e))
 rw [if_neg q] at he;clear q
 by_cases q:i.op=12
 ·rw [if_pos q] at he;exact take_gd h he (fun s hs e=>hsome hs e)
 rw [if_neg q] at he;clear q
 by_cases q:i.op=22
 ·rw [if_pos q] at he;exact any_gd h he (fun x s hx hs e=>hsome hs e)
 rw [if_neg q] at he;clear q
 by_cases q:i.op=23
 ·rw [if_pos q] at he;refine any_gd h he (fun x s hx hs e=>?_)
  cases h1:put m s x with
  | none=>rw [h1] at e;cases e
  | some s1=>rw [h1] at e;exact put_gd (put_gd hs hx h1) hx e
 rw [if_neg q] at he;clear q
 by_cases q:i.op=24
 ·rw [if_pos q] at he;exact take_gd h he (fun s hs e=>hsome hs e)
 rw [if_neg q] at he;clear q
 by_cases q:i.op=13∨i.op=21
 ·rw [if_pos q] at he;exact take_gd h he (fun s hs e=>hsome hs e)
 rw [if_neg q] at he;have q13:=q;clear q
 by_cases q:i.op=14
 ·rw [if_pos q] at he;exact put_gd h (wf_ref (hi.cls (by omega))) he
 rw [if_neg q] at he;clear q
 by_cases q:i.op=15
 ·rw [if_pos q] at he;exact take_gd h he (fun s hs e=>put_gd hs (wf_ty (ftype_ty S.may (hi.cls (by omega)) (hi.fld (by omega)))).1 e)
 rw [if_neg q] at he;clear q
 by_cases q:i.op=16
 ·rw [if_pos q] at he;exact take_gd h he (fun s hs e=>take_gd hs e (fun s hs e=>hsome hs e))
 rw [if_neg q] at he;clear q
 by_cases q:i.op=17
 ·rw [if_pos q] at he;exact take_gd h he (fun s hs e=>put_gd hs (wf_ref (hi.cls (by omega))) e)
 rw [if_neg q] at he;clear q
 by_cases q:i.op=18
 ·rw [if_pos q] at he;exact take_gd h he (fun s hs e=>put_gd hs (wf_flat _ 1 (by decide)) e)
 rw [if_neg q] at he;clear q
 by_cases q:i.op=19
 ·rw [if_pos q] at he;refine takes_gd (fun s hs e=>?_) _ h he;have hk:=hi.meth q;have M2:=S.mes _ (Run.meAt_mem (f:=f) (k:=i.a.toNat) (by omega))
  split at e
  ·exact hsome hs e
  ·rename_i hr
   exact put_gd hs (wf_ty (ret_ty M2 hr)).1 e
 rw [if_neg q] at he;clear q
 by_cases q:i.op=20
 ·rw [if_pos q] at he
  split at he
  ·exact hsome h he
  ·exact take_gd h he (fun s hs e=>hsome hs e)
 rw [if_neg q] at he;clear q;exact hsome h he
end
section
variable {f:Fi}{m:Me}
theorem goes_some {a:Nat}{s s':State}(h:goes f m a s=some s'):s.broken=false∧does f m (insAt m a) s=some s'∧∀ k∈nexts (insAt m a) a,k < m.code.length:=by
 unfold goes at h
 split at h
 ·cases h
 ·rename_i hb
  cases hd:does f m (insAt m a) s with
  | none=>rw [hd] at h;cases h
  | some s1 =>
   rw [hd] at h;simp only [Option.bind_some] at h
   split at h
   ·rename_i ha
    injection h with h
    subst h;exact ⟨by simpa using hb,rfl,fun k hk=>by simpa using List.all_eq_true.1 ha k hk⟩
   ·cases h
theorem insAt_mem {a:Nat}(h:a < m.code.length):insAt m a∈m.code∧m.code[a]? = some (insAt m a):=by
 unfold insAt;rw [List.getD_eq_getElem?_getD,List.getElem?_eq_getElem h];exact ⟨List.getElem_mem h,rfl⟩
theorem goes_out {a:Nat}(h:m.code.length≤a) (s:State):goes f m a s=none:=by
 cases hg:goes f m a s with
 | none=>rfl
 | some s' =>
  obtain ⟨_,_,h3⟩:=goes_some hg;have hi:insAt m a=nilIns:=by unfold insAt;rw [List.getD_eq_getElem?_getD,List.getElem?_eq_none h];rfl
  rw [hi] at h3
  have:=h3 (a+1) (by simp [nexts,nilIns])
  omega
theorem one_ok (S:Run.FiS f) (hm:m∈f.methods):OneOk f.classes.length m.locals.toNat m.stack.toNat (one f m):=by
 have M:=S.mes m hm
 intro a s hs p hp
 unfold one at hp;simp only at hp
 rcases List.mem_append.1 hp with hp | hp
 ·obtain ⟨k,hk,rfl⟩:=List.mem_map.1 hp;simp only
  cases hg:goes f m a s with
  | none=>exact bad_ok _ _ _
  | some s' =>
   obtain ⟨h1,h2,h3⟩:=goes_some hg
   by_cases ha:a < m.code.length
   ·exact (does_gd S M (M.ins _ (insAt_mem ha).1) (gd_of hs h1) h2).ok
   ·rw [goes_out (by omega)] at hg;cases hg
 ·obtain ⟨x,hx,rfl⟩:=List.mem_map.1 hp;simp only [List.mem_filter] at hx;unfold hstate
  split
  ·exact bad_ok _ _ _
  ·rename_i hn
   have hlive:s.broken=false:=by
    cases hg:goes f m a s with
    | none=>rw [hg] at hn;exact absurd (.inl rfl) hn
    | some s'=>exact (goes_some hg).1
   have g:=gd_of hs hlive;have hh:=M.hds.2 x hx.1;simp only [Form.hd,Bool.and_eq_true,Run.rng_iff] at hh;refine Gd.ok ⟨rfl,g.len,?_,g.slots,fun y hy=>?_,g.pair⟩
   ·have:=M.stack
    simp only [List.length_cons,List.length_nil];omega
   ·have:y=⟨3,x.cls⟩:=by simpa using hy
    subst this;exact wf_ref hh.2
theorem tstores_len:∀ (ts:List Ty) (l:List Ty) (a:Nat),(tstores l a ts).length=l.length:=by
 intro ts
 induction ts with
 | nil=>intro l a;rfl
 | cons t ts ih=>intro l a;rw [tstores,ih,store_len]
theorem tstores_gd (n:Nat):∀ (ts:List Ty) (l:List Ty) (a:Nat),(∀ t∈ts,Hier.ty n t=true)→a+Form.slots ts≤l.length→WfL n l→Paired l→WfL n (tstores l a ts)∧Paired (tstores l a ts):=by
 intro ts
 induction ts with
 | nil=>intro l a _ _ hw hp;exact ⟨hw,hp⟩
 | cons t ts ih =>
  intro l a ht hr hw hp
  obtain ⟨w,k⟩:=wf_ty (ht t (by simp))
  rw [Form.slots] at hr;refine ih _ _ (fun x hx=>ht x (by simp [hx])) ?_ (store_wf hw w _) (store_paired hp (by omega) ?_ ?_)
  ·rw [store_len];omega
  ·split at hr <;> omega
  ·intro e;rw [if_pos e] at hr;omega
theorem none_paired (k:Nat):Paired (List.replicate k none_):=by
 have e:∀ i,(List.replicate k none_).getD i none_=none_:=fun i=>by
  rw [List.getD_eq_getElem?_getD,List.getElem?_replicate];split <;> rfl
 refine ⟨fun i hi=>?_,fun i hi=>?_⟩ <;> (unfold kd at hi;rw [e] at hi;simp [none_] at hi)
theorem start_gd (S:Run.FiS f) (hm:m∈f.methods):Gd f.classes.length m.locals.toNat m.stack.toNat (start m):=by
 have M:=S.mes m hm;have hl:=M.locals;obtain ⟨h1,h2⟩:=tstores_gd f.classes.length m.params (List.replicate m.locals.toNat none_) 0 M.params.2 (by simp;omega) (fun x hx=>by have:=List.eq_of_mem_replicate hx;subst this;exact wf_none _) (none_paired _)
 exact ⟨rfl,by simp [start,tstores_len],Nat.zero_le _,h1,(fun x hx=>by cases hx),h2⟩
theorem run0_ok (S:Run.FiS f) (hm:m∈f.methods):RunOk f.classes.length m.locals.toNat m.stack.toNat m.code.length (run0 f m):=by
 have hr:RunOk f.classes.length m.locals.toNat m.stack.toNat m.code.length ⟨List.replicate m.code.length none,[],false⟩:=by
  refine ⟨by simp,fun k s hk=>?_,fun a ha=>by cases ha⟩
  simp only at hk;rw [List.getD_eq_getElem?_getD,List.getElem?_replicate] at hk
  split at hk <;> cases hk
 exact (lead_ok S.may hr (start_gd S hm).ok).1
theorem run0_is (S:Run.FiS f) (hm:m∈f.methods):run0 f m=⟨(List.replicate m.code.length none).set 0 (some (start m)),[0],false⟩:=by
 have hc:=(S.mes m hm).code;unfold run0 lead;simp only [List.length_replicate];rw [if_pos (by omega),List.getD_eq_getElem?_getD,List.getElem?_replicate,if_pos (by omega)]
 rfl
end
end Chk
namespace Chk
open D Num Flow
open Run (Vl Hp Sf Ext Typed ofT obj VtOk VlOk)
def GV (l:List Cls) (h:Hp) (x:Ty) (v:Vl):Prop :=
 x.kind=0∨(x.kind=1∧v.kind=1)∨(x.kind=2∧v.kind=2)∨(x.kind=5∧v.kind=2)∨(x.kind=6∧v.kind=9)∨(x.kind=7∧v.kind=3∧v.n < 0)∨(x.kind=3∧v.kind=3∧(v.n < 0∨Hier.is l (obj h v.n).cls x.cls=true))
def Whole (x:Ty):Prop:=x.kind=1∨x.kind=2∨x.kind=3∨x.kind=7
def GS (l:List Cls) (h:Hp) (x:Ty) (v:Vl):Prop:=GV l h x v∧Whole x
def GLs (l:List Cls) (h:Hp) (xs:List Ty) (vs:List Vl):Prop:=vs.length=xs.length∧∀ i,GV l h (xs.getD i none_) (vs.getD i Vl.nil)∧kd xs i≠2
def GSs (l:List Cls) (h:Hp):List Ty→List Vl→Prop
 | [],[]=>True
 | x :: xs,v :: vs=>GS l h x v∧GSs l h xs vs
 | _,_=>False
structure Fit (l:List Cls) (h:Hp) (s:State) (fr:Sf):Prop where
 loc:GLs l h s.slots fr.loc
 stk:GSs l h s.stack fr.stk
def Γ (l:List Cls) (s:State) (p:Hp × Sf):Prop:=s.broken=false→Fit l p.1 s p.2
section
variable {l:List Cls}{h h':Hp}{x:Ty}{v:Vl}
theorem gv_none (v:Vl):GV l h none_ v:=.inl rfl
theorem GV.ext (g:GV l h x v) (e:Ext h h') (hv:VlOk h.objs.length v):GV l h' x v:=by
 rcases g with g | g | g | g | g | g | ⟨g1,g2,g3⟩
 ·exact .inl g
 ·exact .inr (.inl g)
 ·exact .inr (.inr (.inl g))
 ·exact .inr (.inr (.inr (.inl g)))
 ·exact .inr (.inr (.inr (.inr (.inl g))))
 ·exact .inr (.inr (.inr (.inr (.inr (.inl g)))))
 ·refine .inr (.inr (.inr (.inr (.inr (.inr ⟨g1,g2,?_⟩)))))
  by_cases hn:v.n < 0
  ·exact .inl hn
  ·right
   have:=hv.2.2.2 g2
   rw [e.2 v.n (by omega) (by omega)]
   exact g3.resolve_left hn
theorem gs_kind (g:GS l h x v):(x.kind=1→v.kind=1)∧(x.kind=2→v.kind=2)∧(x.kind=3∨x.kind=7→v.kind=3)∧(v.kind=2→x.kind=2):=by
 obtain ⟨g,w⟩:=g;unfold Whole at w
 rcases g with g | g | g | g | g | g | g <;> omega
theorem both_left (hm:Hier.may l=true){a b:Ty}(ha:Wf l.length a) (hb:Wf l.length b) (g:GV l h a v):GV l h (both l a b) v:=by
 unfold both
 split
 ·exact g
 ·split
  ·rename_i e
   rcases g with g | g | g | g | g | g | g
   all_goals first | omega | skip
   exact .inr (.inr (.inr (.inr (.inr (.inr ⟨e.2,g.2.1,.inl g.2.2⟩)))))
  ·split
   ·exact g
   ·split
    ·rename_i e
     have hB:=(Hier.join_best hm (ha.1 e.1) (hb.1 e.2)).1
     rcases g with g | g | g | g | g | g | g
     all_goals first | omega | skip
     refine .inr (.inr (.inr (.inr (.inr (.inr ⟨rfl,g.2.1,?_⟩)))))
     rcases g.2.2 with q | q
     ·exact .inl q
     ·exact .inr (Hier.is_trans (Hier.wf_of_may hm) ((obj h v.n).cls.toNat+1) _ _ _ (by omega) q hB)
    ·exact gv_none v
theorem both_right (hm:Hier.may l=true){a b:Ty}(ha:Wf l.length a) (hb:Wf l.length b) (g:GV l h b v):GV l h (both l a b) v:=by
 unfold both
 split
 ·rename_i e;rw [e];exact g
 ·split
  ·exact g
  ·split
   ·rename_i e
    rcases g with g | g | g | g | g | g | g
    all_goals first | omega | skip
    exact .inr (.inr (.inr (.inr (.inr (.inr ⟨e.2,g.2.1,.inl g.2.2⟩)))))
   ·split
    ·rename_i e
     have hB:=(Hier.join_best hm (ha.1 e.1) (hb.1 e.2)).2.1
     rcases g with g | g | g | g | g | g | g
     all_goals first | omega | skip
     refine .inr (.inr (.inr (.inr (.inr (.inr ⟨rfl,g.2.1,?_⟩)))))
     rcases g.2.2 with q | q
     ·exact .inl q
     ·exact .inr (Hier.is_trans (Hier.wf_of_may hm) ((obj h v.n).cls.toNat+1) _ _ _ (by omega) q hB)
    ·exact gv_none v
theorem both_whole {a b:Ty}(h0:(both l a b).kind≠0) (hw:Whole a∨Whole b):Whole (both l a b):=by
 unfold both at h0 ⊢;unfold Whole at *
 split at h0
 ·rename_i e
  rw [if_pos e];subst e;omega
 ·rename_i e
  rw [if_neg e]
  split at h0
  ·rename_i e1;rw [if_pos e1];omega
  ·rename_i e1
   rw [if_neg e1]
   split at h0
   ·rename_i e2;rw [if_pos e2];omega
   ·rename_i e2
    rw [if_neg e2]
    split at h0
    ·rename_i e3;rw [if_pos e3];simp
    ·simp [none_] at h0
theorem both_two {a b:Ty}(h2:(both l a b).kind=2):a.kind=2:=by
 unfold both at h2
 split at h2
 ·exact h2
 ·split at h2
  ·omega
  ·split at h2
   ·exact h2
   ·split at h2
    ·simp at h2
    ·simp [none_] at h2
theorem both_two2 {a b:Ty}(h2:(both l a b).kind=2):b.kind=2:=by
 have:=both_two h2
 unfold both at h2
 split at h2
 ·rename_i e;rw [← e];exact h2
 ·split at h2
  ·omega
  ·split at h2
   ·rename_i e;omega
   ·split at h2
    ·simp at h2
    ·simp [none_] at h2
theorem zip_left (hm:Hier.may l=true):∀ {xs ys:List Ty}{vs:List Vl},WfL l.length xs→WfL l.length ys→xs.length=ys.length→(zip l xs ys).any (fun x=>decide (x.kind=0))=false→GSs l h xs vs→GSs l h (zip l xs ys) vs:=by
 intro xs
 induction xs with
 | nil=>intro ys vs _ _ hl _ g;cases ys with
  | nil=>exact g
  | cons y ys=>simp at hl
 | cons a xs ih =>
  intro ys vs hx hy hl hn g
  cases ys with
  | nil=>simp at hl
  | cons b ys =>
   cases vs with
   | nil=>exact g
   | cons v vs =>
    simp only [zip,List.any_cons,Bool.or_eq_false_iff,decide_eq_false_iff_not] at hn;exact ⟨⟨both_left hm (hx a (by simp)) (hy b (by simp)) g.1.1,both_whole hn.1 (.inl g.1.2)⟩,ih (fun z hz=>hx z (by simp [hz])) (fun z hz=>hy z (by simp [hz])) (by simpa using hl) hn.2 g.2⟩
theorem zip_right (hm:Hier.may l=true):∀ {xs ys:List Ty}{vs:List Vl},WfL l.length xs→WfL l.length ys→xs.length=ys.length→(zip l xs ys).any (fun x=>decide (x.kind=0))=false→GSs l h ys vs→GSs l h (zip l xs ys) vs:=by
 intro xs
 induction xs with
 | nil=>intro ys vs _ _ hl _ g;cases ys with
  | nil=>exact g
  | cons y ys=>simp at hl
 | cons a xs ih =>
  intro ys vs hx hy hl hn g
  cases ys with
  | nil=>simp at hl
  | cons b ys =>
   cases vs with
   | nil=>exact g
   | cons v vs =>
    simp only [zip,List.any_cons,Bool.or_eq_false_iff,decide_eq_false_iff_not] at hn;exact ⟨⟨both_right hm (hx a (by simp)) (hy b (by simp)) g.1.1,both_whole hn.1 (.inr g.1.2)⟩,ih (fun z hz=>hx z (by simp [hz])) (fun z hz=>hy z (by simp [hz])) (by simpa using hl) hn.2 g.2⟩
theorem getD_wf {n:Nat}{xs:List Ty}(hx:WfL n xs) (i:Nat):Wf n (xs.getD i none_):=by
 by_cases hi:i < xs.length
 ·rw [List.getD_eq_getElem?_getD,List.getElem?_eq_getElem hi];exact hx _ (List.getElem_mem hi)
 ·rw [getD_out (by omega)];exact wf_none n
theorem meets (hm:Hier.may l=true) (nl ns:Nat):Meets (Γ l) l nl ns:=by
 refine ⟨fun a b ha hb p g=>?_,fun a b ha hb p g=>?_⟩ <;> intro hbr <;> unfold together at hbr ⊢
 ·split at hbr
  ·cases hbr
  ·rename_i e
   rw [if_neg e]
   split at hbr
   ·cases hbr
   ·rename_i e2
    rw [if_neg e2]
    have h1:a.broken=false:=by
                                         cases q:a.broken;· rfl
                                         · exact absurd (.inl q) e
    have h2:b.broken=false:=by
                                         cases q:b.broken;· rfl
                                         · exact absurd (.inr (.inl q)) e
    obtain ⟨a1,a2,a3,a4,a5⟩:=ha.2 h1;obtain ⟨b1,b2,b3,b4,b5⟩:=hb.2 h2;obtain ⟨q1,q2⟩:=g h1;refine ⟨⟨by rw [zip_len];exact q1.1,fun i=>?_⟩,zip_left hm a4 b4 (Decidable.of_not_not fun q=>e (.inr (.inr q))) (by simpa using e2) q2⟩
    unfold kd;rw [zip_getD _ _ _ (by omega)]
    split
    ·exact ⟨both_left hm (getD_wf a3 i) (getD_wf b3 i) (q1.2 i).1,fun e=>(q1.2 i).2 (both_two e)⟩
    ·exact ⟨gv_none _,by simp [none_]⟩
 ·split at hbr
  ·cases hbr
  ·rename_i e
   rw [if_neg e]
   split at hbr
   ·cases hbr
   ·rename_i e2
    rw [if_neg e2]
    have h1:a.broken=false:=by
                                         cases q:a.broken;· rfl
                                         · exact absurd (.inl q) e
    have h2:b.broken=false:=by
                                         cases q:b.broken;· rfl
                                         · exact absurd (.inr (.inl q)) e
    obtain ⟨a1,a2,a3,a4,a5⟩:=ha.2 h1;obtain ⟨b1,b2,b3,b4,b5⟩:=hb.2 h2;obtain ⟨q1,q2⟩:=g h2;refine ⟨⟨by rw [zip_len];have:=q1.1;omega,fun i=>?_⟩,zip_right hm a4 b4 (Decidable.of_not_not fun q=>e (.inr (.inr q))) (by simpa using e2) q2⟩
    unfold kd;rw [zip_getD _ _ _ (by omega)]
    split
    ·exact ⟨both_right hm (getD_wf a3 i) (getD_wf b3 i) (q1.2 i).1,fun e=>(q1.2 i).2 (both_two2 e)⟩
    ·exact ⟨gv_none _,by simp [none_]⟩
theorem GSs.len:∀ {xs:List Ty}{vs:List Vl},GSs l h xs vs→vs.length=xs.length:=by
 intro xs
 induction xs with
 | nil=>intro vs g;cases vs with
  | nil=>rfl
  | cons v vs=>exact g.elim
 | cons x xs ih=>intro vs g;cases vs with
  | nil=>exact g.elim
  | cons v vs=>simp [ih g.2]
theorem GSs.get:∀ {xs:List Ty}{vs:List Vl},GSs l h xs vs→∀ i,i < xs.length→GS l h (xs.getD i none_) (vs.getD i Vl.nil):=by
 intro xs
 induction xs with
 | nil=>intro vs g i hi;simp at hi
 | cons x xs ih=>intro vs g i hi;cases vs with
  | nil=>exact g.elim
  | cons v vs =>
   cases i with
   | zero=>exact g.1
   | succ i=>simpa using ih g.2 i (by simpa using hi)
theorem GSs.of:∀ {xs:List Ty}{vs:List Vl},vs.length=xs.length→(∀ i,i < xs.length→GS l h (xs.getD i none_) (vs.getD i Vl.nil))→GSs l h xs vs:=by
 intro xs
 induction xs with
 | nil=>intro vs hl _;cases vs with
  | nil=>trivial
  | cons v vs=>simp at hl
 | cons x xs ih=>intro vs hl g;cases vs with
  | nil=>simp at hl
  | cons v vs=>exact ⟨g 0 (by simp),ih (by simpa using hl) (fun i hi=>by simpa using g (i+1) (by simpa using hi))⟩
theorem GSs.snoc:∀ {xs:List Ty}{vs:List Vl},GSs l h xs vs→GS l h x v→GSs l h (xs++[x]) (vs++[v]):=by
 intro xs
 induction xs with
 | nil=>intro vs g g1;cases vs with
  | nil=>exact ⟨g1,trivial⟩
  | cons v vs=>exact g.elim
 | cons y xs ih=>intro vs g g1;cases vs with
  | nil=>exact g.elim
  | cons u vs=>exact ⟨g.1,ih g.2 g1⟩
theorem GSs.take:∀ {xs:List Ty}{vs:List Vl}(n:Nat),GSs l h xs vs→GSs l h (xs.take n) (vs.take n):=by
 intro xs
 induction xs with
 | nil=>intro vs n g;cases vs with
  | nil=>cases n <;> exact g
  | cons v vs=>exact g.elim
 | cons y xs ih=>intro vs n g;cases vs with
  | nil=>exact g.elim
  | cons u vs=>cases n with
   | zero=>trivial
   | succ n=>exact ⟨g.1,ih n g.2⟩
theorem GSs.dropLast {xs:List Ty}{vs:List Vl}(g:GSs l h xs vs):GSs l h xs.dropLast vs.dropLast:=by
 rw [List.dropLast_eq_take,List.dropLast_eq_take,g.len];exact g.take _
theorem GSs.size:∀ {xs:List Ty}{vs:List Vl},GSs l h xs vs→Run.size vs=Form.slots xs:=by
 intro xs
 induction xs with
 | nil=>intro vs g;cases vs with
  | nil=>rfl
  | cons v vs=>exact g.elim
 | cons y xs ih=>intro vs g;cases vs with
  | nil=>exact g.elim
  | cons u vs =>
   rw [Run.size,Form.slots,ih g.2]
   have:=gs_kind g.1
   unfold Run.width
   by_cases e:y.kind=2
   ·rw [if_pos e,if_pos (this.2.1 e)]
   ·rw [if_neg e,if_neg (fun q=>e (this.2.2.2 q))]
theorem GSs.ext:∀ {xs:List Ty}{vs:List Vl},GSs l h xs vs→Ext h h'→(∀ v∈vs,VtOk h.objs.length v)→GSs l h' xs vs:=by
 intro xs
 induction xs with
 | nil=>intro vs g _ _;cases vs with
  | nil=>trivial
  | cons v vs=>exact g.elim
 | cons y xs ih=>intro vs g e hv;cases vs with
  | nil=>exact g.elim
  | cons u vs=>exact ⟨⟨g.1.1.ext e (hv u (by simp)).1,g.1.2⟩,ih g.2 e (fun v hm=>hv v (by simp [hm]))⟩
theorem GLs.ext {xs:List Ty}{vs:List Vl}(g:GLs l h xs vs) (e:Ext h h') (hv:∀ i,VlOk h.objs.length (vs.getD i Vl.nil)):GLs l h' xs vs:=⟨g.1,fun i=>⟨(g.2 i).1.ext e (hv i),(g.2 i).2⟩⟩
theorem GSs.top {xs:List Ty}{vs:List Vl}(g:GSs l h xs vs) (hne:xs≠[]):vs≠[]∧GS l h (xs.getLast?.getD none_) (Run.top vs):=by
 have hl:=g.len;have hp:0 < xs.length:=List.length_pos_iff.2 hne
 have:=g.get (xs.length - 1) (by omega)
 refine ⟨fun e=>by rw [e] at hl;simp at hl;omega,?_⟩
 unfold Run.top;rw [List.getLast?_eq_getElem?,List.getLast?_eq_getElem?,hl,← List.getD_eq_getElem?_getD,← List.getD_eq_getElem?_getD];exact this
theorem GLs.set {xs:List Ty}{vs:List Vl}(g:GLs l h xs vs) (a:Nat) (g1:GV l h x v) (h2:x.kind≠2):GLs l h (xs.set a x) (vs.set a v):=by
 refine ⟨by simpa using g.1,fun i=>?_⟩
 unfold kd;rw [getD_set,Run.getD_set,g.1]
 split
 ·exact ⟨g1,h2⟩
 ·exact g.2 i
theorem gv_paired {xs:List Ty}{vs:List Vl}(g:GLs l h xs vs) (p:Paired xs) (q:Run.Paired vs) (a i:Nat) (hi:(Run.kd vs a=9∧i+1=a)∨(Run.kd vs a=2∧i=a+1)) (hn:¬ (i=a∨(kd xs a=6∧i+1=a)∨(kd xs a=5∧i=a+1))):kd xs i=0:=by
 obtain ⟨gi,gn⟩:=g.2 i
 have key:∀ k,(vs.getD i Vl.nil).kind=k→(k=2→kd xs i=5∨kd xs i=0)∧(k=9→kd xs i=6∨kd xs i=0):=fun k hk=>by
  unfold kd at gn ⊢;unfold GV at gi
  constructor <;> intro e <;> omega
 rcases hi with ⟨h9,e⟩ | ⟨h2,e⟩
 ·have h1:=q.2 a h9;have ei:a - 1=i:=by omega
  rw [ei] at h1;have ga:=g.2 a
  rcases (key _ h1.2).1 rfl with r | r
  ·have:=p.1 i r
   rw [e] at this;exact absurd (.inr (.inl ⟨this,e⟩)) hn
  ·exact r
 ·have h1:=q.1 a h2;rw [← e] at h1
  rcases (key _ h1).2 rfl with r | r
  ·have:=p.2 i r
   rw [show i - 1=a by omega] at this
   exact absurd (.inr (.inr ⟨this.2,e⟩)) hn
  ·exact r
theorem lose_sim {xs:List Ty}{vs:List Vl}(g:GLs l h xs vs) (p:Paired xs) (q:Run.Paired vs) (a:Nat):GLs l h (lose xs a) (Run.lose vs a):=by
 refine ⟨by rw [lose_len,Run.lose_len];exact g.1,fun i=>?_⟩
 unfold kd;rw [lose_getD,Run.lose_getD]
 by_cases hn:i=a∨(kd xs a=6∧i+1=a)∨(kd xs a=5∧i=a+1)
 ·rw [if_pos hn];exact ⟨gv_none _,by simp [none_]⟩
 ·rw [if_neg hn]
  split
  ·rename_i hi
   have h0:kd xs i=0:=gv_paired g p q a i (hi.resolve_left (fun e=>hn (.inl e))) hn;unfold kd at h0;exact ⟨.inl h0,by omega⟩
  ·exact g.2 i
theorem store_sim {xs:List Ty}{vs:List Vl}(g:GLs l h xs vs) (p:Paired xs) (q:Run.Paired vs) (a:Nat) (g1:GS l h x v):GLs l h (Flow.store xs a x) (Run.store vs a v):=by
 have hk:=gs_kind g1;unfold Flow.store Run.store
 by_cases h2:x.kind=2
 ·rw [if_neg (by simpa using h2),if_pos (hk.2.1 h2)]
  have g2:=lose_sim (lose_sim g p q a) (lose_paired p a) (Run.lose_paired q a) (a+1);rw [List.set_comm _ _ (by omega)]
  exact (g2.set (x:=⟨6,0⟩) (v:=⟨9,0⟩) (a+1) (.inr (.inr (.inr (.inr (.inl ⟨rfl,rfl⟩))))) (by decide)).set (x:=⟨5,0⟩) a (.inr (.inr (.inr (.inl ⟨rfl,hk.2.1 h2⟩)))) (by decide)
 ·rw [if_pos (by simpa using h2),if_neg (fun e=>h2 (hk.2.2.2 e))]
  exact (lose_sim g p q a).set a g1.1 h2
end
section
variable {l:List Cls}{h h':Hp}{x t:Ty}{v:Vl}
theorem fits_of (hm:Hier.may l=true) (g:GS l h x v) (hf:fits l x t=true) (ht:t.kind=1∨t.kind=2∨t.kind=3):ofT l h v t=true∧v.kind=t.kind:=by
 have hk:=gs_kind g;unfold fits at hf
 by_cases h3:t.kind=3
 ·rw [if_pos h3] at hf;simp only [Bool.or_eq_true,Bool.and_eq_true,decide_eq_true_eq] at hf;have hv:v.kind=3:=hk.2.2.1 (by omega)
  refine ⟨?_,by omega⟩
  unfold Run.ofT;simp only [Bool.and_eq_true,Bool.or_eq_true,decide_eq_true_eq];refine ⟨by omega,?_⟩
  rcases hf with e | ⟨e,hi⟩
  ·have:v.n < 0:=by have:=g.1;unfold GV at this;omega
   exact .inl (.inr this)
  ·have:v.n < 0∨Hier.is l (obj h v.n).cls x.cls=true:=by
    rcases g.1 with q | q | q | q | q | q | q
    all_goals first | omega | skip
    exact q.2.2
   rcases this with q | q
   ·exact .inl (.inr q)
   ·exact .inr (Hier.is_trans (Hier.wf_of_may hm) ((obj h v.n).cls.toNat+1) _ _ _ (by omega) q hi)
 ·rw [if_neg h3] at hf;have hx:x.kind=t.kind:=by simpa using hf
  have hv:v.kind=t.kind:=by
   rcases ht with e | e | e
   ·rw [hk.1 (by omega),e]
   ·rw [hk.2.1 (by omega),e]
   ·exact absurd e h3
  refine ⟨?_,hv⟩;unfold Run.ofT;simp only [Bool.and_eq_true,Bool.or_eq_true,decide_eq_true_eq];exact ⟨hv,.inl (.inl h3)⟩
theorem gs_of (ho:ofT l h v t=true) (ht:t.kind=1∨t.kind=2∨t.kind=3):GS l h t v:=by
 have hk:=Run.of_kind ho;refine ⟨?_,by unfold Whole;omega⟩
 rcases ht with e | e | e
 ·exact .inr (.inl ⟨e,by omega⟩)
 ·exact .inr (.inr (.inl ⟨e,by omega⟩))
 ·have:t=⟨3,t.cls⟩:=by cases t;simp_all
  rw [this] at ho;exact .inr (.inr (.inr (.inr (.inr (.inr ⟨e,by omega,(Run.of_ref ho).2⟩)))))
theorem gs_int (k n:Int) (hk:k=1∨k=2):GS l h ⟨k,0⟩ ⟨k,n⟩:=by
 rcases hk with e | e <;> subst e
 ·exact ⟨.inr (.inl ⟨rfl,rfl⟩),.inl rfl⟩
 ·exact ⟨.inr (.inr (.inl ⟨rfl,rfl⟩)),.inr (.inl rfl)⟩
theorem gs_kind1 (k:Int) (hv:v.kind=k) (hk:k=1∨k=2):GS l h ⟨k,0⟩ v:=by
 rcases hk with e | e <;> subst e
 ·exact ⟨.inr (.inl ⟨rfl,hv⟩),.inl rfl⟩
 ·exact ⟨.inr (.inr (.inl ⟨rfl,hv⟩)),.inr (.inl rfl)⟩
theorem gs_null:GS l h ⟨7,0⟩ ⟨3,-1⟩:=⟨.inr (.inr (.inr (.inr (.inr (.inl ⟨rfl,rfl,by decide⟩))))),.inr (.inr (.inr rfl))⟩
theorem gs_ref {c:Int}(hv:v.kind=3) (hn:v.n < 0∨Hier.is l (obj h v.n).cls c=true):GS l h ⟨3,c⟩ v:=⟨.inr (.inr (.inr (.inr (.inr (.inr ⟨rfl,hv,hn⟩))))),.inr (.inr (.inl rfl))⟩
theorem load_sim {xs:List Ty}{vs:List Vl}(g:GLs l h xs vs){a:Nat}{k:Int}(hk:1≤k∧k≤3) (hl:loadB xs a k=true):GS l h (loadV xs a k) (vs.getD a Vl.nil)∧(vs.getD a Vl.nil).kind=k:=by
 obtain ⟨gi,gn⟩:=g.2 a;unfold loadB kd at hl;unfold loadV;unfold kd at gn
 by_cases h2:k=2
 ·rw [if_pos h2] at hl ⊢;simp only [Bool.and_eq_true,decide_eq_true_eq] at hl
  have:(vs.getD a Vl.nil).kind=2:=by unfold GV at gi;omega
  exact ⟨gs_kind1 2 this (.inr rfl),by omega⟩
 ·rw [if_neg h2] at hl ⊢
  by_cases h3:k=3
  ·rw [if_pos h3] at hl;simp only [Bool.or_eq_true,decide_eq_true_eq] at hl
   have:(vs.getD a Vl.nil).kind=3:=by unfold GV at gi;omega
   exact ⟨⟨gi,by unfold Whole;omega⟩,by omega⟩
  ·rw [if_neg h3] at hl;have hx:(xs.getD a none_).kind=k:=by simpa using hl
   have:(vs.getD a Vl.nil).kind=1:=by unfold GV at gi;omega
   exact ⟨⟨gi,by unfold Whole;omega⟩,by omega⟩
end
end Chk
namespace Chk
open D Num Flow
open Run (Vl Hp Sf Ext Typed ofT obj VtOk VlOk Res MeS FiS InS meAt HpOk SfOk)
def AG (f:Fi) (m:Me) (fr0:Sf) (h0:Hp) (s':State) (ns:List Nat):Run.Act Sf→Prop
 | .go fr h=>Ext h0 h∧Typed f.classes h∧fr.at_∈ns∧Fit f.classes h s' fr
 | .back v h=>Ext h0 h∧Typed f.classes h∧Run.RetT f.classes m h v
 | .thrown o h=>Ext h0 h∧Typed f.classes h
 | .stop e h=>e≠6
 | .call k args fr h=>Ext h0 h∧Typed f.classes h∧Run.allOf f.classes h args (meAt f k).params=true∧fr.at_=fr0.at_∧fr.loc=fr0.loc ∧
   ∀ v h',Ext h h'→Run.RetT f.classes (meAt f k) h' v→∃ fr',Run.sresume m (meAt f k) fr v=some fr'∧fr'.at_∈ns∧Fit f.classes h' s' fr'
section
variable {f:Fi}{m:Me}{i:Ins}{fr:Sf}{h h0:Hp}{s s':State}{ns:List Nat}
theorem act_ag {α:Type}{R:α→Hp→Prop}{r:Res α}{k:α→Hp→Run.Act Sf}(hr:Run.ResT f.classes h R r) (hk:∀ a h',Ext h h'→Typed f.classes h'→R a h'→AG f m fr h s' ns (k a h')):AG f m fr h s' ns (r.act k):=by
 cases r with
 | ok a h'=>exact hk a h' hr.1 hr.2.1 hr.2.2
 | thrown o h'=>exact hr
 | stop e h'=>exact hr
theorem put_ag (E:Ext h h0) (T:Typed f.classes h0){st:List Vl}{x:Ty}{v:Vl}{xs ys:List Ty}{br:Bool}(hl:GLs f.classes h0 xs fr.loc) (hs:GSs f.classes h0 ys st) (g:GS f.classes h0 x v) (hp:put m ⟨xs,ys,br⟩ x=some s') (hn:fr.at_+1∈ns):AG f m fr h s' ns (Run.push m fr st v h0):=by
 unfold put at hp
 split at hp
 ·rename_i hz
  injection hp with hp
  subst hp;have g2:=hs.snoc g;unfold Run.push;rw [if_pos (by rw [g2.size];exact hz)]
  exact ⟨E,T,hn,hl,g2⟩
 ·cases hp
theorem any_ag {k:Ty→State→Option State}{K:Vl→List Vl→Run.Act Sf}(F:Fit f.classes h s fr) (he:any s k=some s') (hk:∀ v st,k (last s) (pop s)=some s'→(v∈fr.stk∧st=fr.stk.dropLast)→GS f.classes h (last s) v→GSs f.classes h (pop s).stack st→AG f m fr h s' ns (K v st)):AG f m fr h s' ns (Run.pop1 fr h K):=by
 unfold any at he
 split at he
 ·cases he
 ·rename_i hne
  obtain ⟨g1,g2⟩:=F.stk.top hne;unfold Run.pop1;rw [if_neg g1];refine hk _ _ he ⟨?_,rfl⟩ g2 F.stk.dropLast;unfold Run.top;rw [List.getLast?_eq_some_getLast g1];exact List.getLast_mem g1
theorem any_of2 {k:Ty→State→Option State}{st:List Vl}(g:GSs f.classes h s.stack st) (he:any s k=some s'):st≠[]∧k (last s) (pop s)=some s'∧Run.top st∈st∧GS f.classes h (last s) (Run.top st)∧GSs f.classes h (pop s).stack st.dropLast:=by
 unfold any at he
 split at he
 ·cases he
 ·rename_i hne
  obtain ⟨g1,g2⟩:=g.top hne;refine ⟨g1,he,?_,g2,g.dropLast⟩;unfold Run.top;rw [List.getLast?_eq_some_getLast g1];exact List.getLast_mem g1
theorem fits_if {c:List Cls}{x t:Ty}{s:State}{k:State→Option State}(h:(if fits c x t then k s else none)=some s'):fits c x t=true∧k s=some s':=by
 split at h
 ·rename_i e;exact ⟨e,h⟩
 ·cases h
theorem takes_of {c:List Cls}{k:State→Option State}:∀ (ts:List Ty){s:State},takes c ts s k=some s'→ts.length≤s.stack.length∧k ⟨s.slots,s.stack.take (s.stack.length - ts.length),s.broken⟩=some s'∧∀ j,j < ts.length→fits c (s.stack.getD (s.stack.length - 1 - j) none_) (ts.getD j none_)=true:=by
 intro ts
 induction ts with
 | nil =>
  intro s he
  refine ⟨Nat.zero_le _,?_,fun j hj=>by simp at hj⟩
  simp only [List.length_nil,Nat.sub_zero,List.take_length];exact he
 | cons t ts ih =>
  intro s he
  unfold takes take any at he
  split at he
  ·cases he
  ·rename_i hne
   have hp:0 < s.stack.length:=List.length_pos_iff.2 hne;obtain ⟨h1,h2⟩:=fits_if (k:=fun s=>takes c ts s k) he;obtain ⟨q1,q2,q3⟩:=ih h2;have e0:(pop s).stack.length=s.stack.length - 1:=by simp [pop]
   have ep:(pop s).stack=s.stack.take (s.stack.length - 1):=by simp only [pop];exact List.dropLast_eq_take
   refine ⟨by simp only [List.length_cons];omega,?_,fun j hj=>?_⟩
   ·rw [e0,ep,List.take_take] at q2;rw [show min (s.stack.length - 1 - ts.length) (s.stack.length - 1)=s.stack.length - (ts.length+1) by omega] at q2
    exact q2
   ·cases j with
    | zero =>
     unfold last at h1;rw [List.getLast?_eq_getElem?] at h1;rw [List.getD_eq_getElem?_getD]
     simpa using h1
    | succ j =>
     have hj':j < ts.length:=by simpa using hj
     have:=q3 j hj'
     rw [e0,ep,List.getD_eq_getElem?_getD,List.getElem?_take_of_lt (by omega)] at this
     rw [List.getD_eq_getElem?_getD];rw [show s.stack.length - 1 - (j+1)=s.stack.length - 1 - 1 - j by omega]
     simpa using this
theorem all_of {l:List Cls}:∀ (vs:List Vl) (ts:List Ty),vs.length=ts.length→(∀ i,i < ts.length→ofT l h (vs.getD i Vl.nil) (ts.getD i none_)=true)→Run.allOf l h vs ts=true:=by
 intro vs
 induction vs with
 | nil=>intro ts hl _;cases ts with
  | nil=>rfl
  | cons t ts=>simp at hl
 | cons v vs ih =>
  intro ts hl ho
  cases ts with
  | nil=>rfl
  | cons t ts =>
   simp only [Run.allOf,Bool.and_eq_true];exact ⟨ho 0 (by simp),ih ts (by simpa using hl) (fun i hi=>by simpa using ho (i+1) (by simpa using hi))⟩
end
section
variable {f:Fi}{m:Me}{i:Ins}{fr:Sf}{h:Hp}{s s':State}{input:List Int}{fuel:Nat}
theorem kindly_ag {h0 h:Hp}{s':State}{ns:List Nat}{v:Vl}{k:Int}{K:Run.Act Sf}(e:v.kind=k) (hk:AG f m fr h0 s' ns K):AG f m fr h0 s' ns (Run.kindly v k h K):=by
 unfold Run.kindly;rw [if_pos e];exact hk
theorem sim (S:FiS f) (M:MeS f m) (hi:InS f m i) (H:HpOk f.classes input fuel h) (T:Typed f.classes h) (hf:SfOk m h.objs.length fr) (hg:Gd f.classes.length m.locals.toNat m.stack.toNat s) (F:Fit f.classes h s fr) (he:does f m i s=some s'):AG f m fr h s' (nexts i fr.at_) (Run.sstep f input m i fr h):=by
 have hm:=S.may
 have step1:¬ (i.op=11∨i.op=20∨i.op=21)→fr.at_+1∈nexts i fr.at_:=fun hn=>by
  unfold nexts;rw [if_neg (by omega)]
  split
  ·simp
  ·rw [if_neg (by omega)];simp
 have hsome:∀ {a b:State},some a=some b→a=b:=fun e=>by injection e
 have E:=Ext.refl h;have in_stk:∀ {v:Vl},v∈fr.stk→VtOk h.objs.length v:=fun hv=>hf.stk _ hv;unfold does at he;unfold Run.sstep
 by_cases q:i.op=1
 ·rw [if_pos q] at he ⊢;exact put_ag E T F.loc F.stk (gs_int 1 _ (.inl rfl)) he (step1 (by omega))
 rw [if_neg q] at he ⊢;have p1:=q;clear q
 by_cases q:i.op=2
 ·rw [if_pos (.inl q)] at he;rw [if_pos q];exact put_ag E T F.loc F.stk (gs_int 2 _ (.inr rfl)) he (step1 (by omega))
 by_cases q25:i.op=25
 ·rw [if_pos (.inr q25)] at he
  repeat rw [if_neg (by omega)]
  rw [if_pos q25];exact act_ag (Run.takeIn_t T input) (fun v h' E' T' R=>put_ag E' T' (F.loc.ext E' hf.loc.vals) (F.stk.ext E' hf.stk) (gs_kind1 2 R.2 (.inr rfl)) he (step1 (by omega)))
 rw [if_neg (by omega)] at he
 rw [if_neg q];have p2:=q;clear q
 by_cases q:i.op=3
 ·rw [if_pos q] at he ⊢;exact put_ag E T F.loc F.stk gs_null he (step1 (by omega))
 rw [if_neg q] at he ⊢;have p3:=q;clear q
 by_cases q:i.op=4
 ·rw [if_pos q] at he ⊢;unfold d4 at he
  split at he
  ·rename_i hl
   obtain ⟨g1,g2⟩:=load_sim F.loc (hi.slot (.inl q)).1 hl;exact kindly_ag g2 (put_ag E T F.loc F.stk g1 he (step1 (by omega)))
  ·cases he
 rw [if_neg q] at he ⊢;have p4:=q;clear q
 by_cases q:i.op=5
 ·rw [if_pos q] at he ⊢;obtain ⟨hb,ha0,ha1⟩:=hi.slot (.inr q);refine any_ag F he (fun v st e hv g gs=>?_)
  split at e
  ·rename_i ho
   have:=hsome e
   subst this;have hk:=okS_kind ho hb;have g2:=gs_kind g;refine kindly_ag (by omega) ⟨E,T,step1 (by omega),store_sim F.loc hg.pair hf.loc.pair _ g,gs⟩
  ·cases e
 rw [if_neg q] at he ⊢;have p5:=q;clear q
 by_cases q:i.op=6
 ·rw [if_pos q] at he ⊢;unfold d67 at he;unfold Run.s67 Run.pop2;refine any_ag F he (fun b st e hb gb gs=>?_);obtain ⟨f1,e⟩:=fits_if (k:=fun s=>take f.classes ⟨1,0⟩ s fun s=>put m s ⟨1,0⟩) e;obtain ⟨hne,e,ha,ga,gs⟩:=any_of2 gs e;rw [if_neg hne];obtain ⟨f2,e⟩:=fits_if (k:=fun s=>put m s ⟨1,0⟩) e;refine act_ag (Run.reckon_t H T (fits_of hm ga f2 (.inl rfl)).2 (fits_of hm gb f1 (.inl rfl)).2 _) (fun v h' E' T' R=>?_);obtain ⟨r1,r2⟩:=R;subst r1;exact put_ag E' T' F.loc gs (gs_kind1 1 r2 (.inl rfl)) e (step1 (by omega))
 rw [if_neg q] at he ⊢;have p6:=q;clear q
 by_cases q:i.op=7
 ·rw [if_pos q] at he ⊢;unfold d67 at he;unfold Run.s67 Run.pop2;refine any_ag F he (fun b st e hb gb gs=>?_);obtain ⟨f1,e⟩:=fits_if (k:=fun s=>take f.classes ⟨2,0⟩ s fun s=>put m s ⟨2,0⟩) e;obtain ⟨hne,e,ha,ga,gs⟩:=any_of2 gs e;rw [if_neg hne];obtain ⟨f2,e⟩:=fits_if (k:=fun s=>put m s ⟨2,0⟩) e;refine act_ag (Run.reckon_t H T (fits_of hm ga f2 (.inr (.inl rfl))).2 (fits_of hm gb f1 (.inr (.inl rfl))).2 _) (fun v h' E' T' R=>?_);obtain ⟨r1,r2⟩:=R;subst r1;exact put_ag E' T' F.loc gs (gs_kind1 2 r2 (.inr rfl)) e (step1 (by omega))
 rw [if_neg q] at he ⊢;have p7:=q;clear q
 by_cases q:i.op=8
 ·rw [if_pos q] at he ⊢;refine any_ag F he (fun b st e hb gb gs=>?_);obtain ⟨f1,e⟩:=fits_if (k:=fun s=>put m s ⟨2,0⟩) e;exact kindly_ag (fits_of hm gb f1 (.inl rfl)).2 (put_ag E T F.loc gs (gs_int 2 _ (.inr rfl)) e (step1 (by omega)))
 rw [if_neg q] at he ⊢;have p8:=q;clear q
 by_cases q:i.op=9
 ·rw [if_pos q] at he ⊢;refine any_ag F he (fun b st e hb gb gs=>?_);obtain ⟨f1,e⟩:=fits_if (k:=fun s=>put m s ⟨1,0⟩) e;exact kindly_ag (fits_of hm gb f1 (.inr (.inl rfl))).2 (put_ag E T F.loc gs (gs_int 1 _ (.inl rfl)) e (step1 (by omega)))
 rw [if_neg q] at he ⊢;have p9:=q;clear q
 by_cases q:i.op=10
 ·rw [if_pos q] at he ⊢;unfold d10 at he;unfold Run.s10 Run.pop2;refine any_ag F he (fun b st e hb gb gs=>?_);obtain ⟨f1,e⟩:=fits_if (k:=fun s=>take f.classes ⟨2,0⟩ s fun s=>put m s ⟨1,0⟩) e;obtain ⟨hne,e,ha,ga,gs⟩:=any_of2 gs e;rw [if_neg hne];obtain ⟨f2,e⟩:=fits_if (k:=fun s=>put m s ⟨1,0⟩) e;exact kindly_ag (fits_of hm gb f1 (.inr (.inl rfl))).2 (kindly_ag (fits_of hm ga f2 (.inr (.inl rfl))).2 (put_ag E T F.loc gs (gs_int 1 _ (.inl rfl)) e (step1 (by omega))))
 rw [if_neg q] at he ⊢;have p10:=q;clear q
 by_cases q:i.op=11
 ·rw [if_pos q]
  repeat rw [if_neg (by omega)] at he
  have:=hsome he
  subst this;exact ⟨E,T,by unfold nexts;rw [if_pos q];simp [Run.on],F.loc,F.stk⟩
 rw [if_neg q];have q11:=q;clear q
 by_cases q:i.op=12
 ·rw [if_pos q] at he ⊢;refine any_ag F he (fun b st e hb gb gs=>?_);obtain ⟨f1,e⟩:=fits_if (k:=some) e
  have:=hsome e
  subst this;refine kindly_ag (fits_of hm gb f1 (.inl rfl)).2 ⟨E,T,?_,F.loc,gs⟩;unfold nexts;rw [if_neg (by omega),if_pos (.inl q)]
  simp only [Run.on]
  split <;> simp
 rw [if_neg q] at he ⊢;have p11:=q;clear q
 by_cases q:i.op=22
 ·rw [if_pos q] at he
  repeat rw [if_neg (by omega)]
  rw [if_pos q];refine any_ag F he (fun b st e hb gb gs=>?_)
  have:=hsome e
  subst this;exact ⟨E,T,step1 (by omega),F.loc,gs⟩
 rw [if_neg q] at he;have q22:=q;clear q
 by_cases q:i.op=23
 ·rw [if_pos q] at he
  repeat rw [if_neg (by omega)]
  rw [if_pos q];refine any_ag F he (fun v st e hb g gs=>?_);unfold put at e
  split at e
  ·simp only [Option.bind_some] at e
   split at e
   ·rename_i hz
    have:=hsome e
    subst this;have g2:=(gs.snoc g).snoc g;rw [List.append_assoc,List.append_assoc] at g2;rw [List.append_assoc] at hz;rw [if_pos (by have:=g2.size;simp only [List.cons_append,List.nil_append] at this hz;rw [this];exact hz)]
    refine ⟨E,T,step1 (by omega),F.loc,?_⟩
    simp only [Run.on,List.append_assoc];exact g2
   ·cases e
  ·cases e
 rw [if_neg q] at he;have q23:=q;clear q
 by_cases q:i.op=24
 ·rw [if_pos q] at he
  repeat rw [if_neg (by omega)]
  rw [if_pos q];refine any_ag F he (fun v st e hb g gs=>?_);obtain ⟨f1,e⟩:=fits_if (k:=some) e
  have:=hsome e
  subst this;have ho:=hi.out q;refine act_ag (Run.emit_t T (fits_of hm g f1 (by simp only;omega)).2) (fun _ h' E' T' R=>⟨E',T',step1 (by omega),F.loc.ext E' hf.loc.vals,gs.ext E' (fun x hx=>?_)⟩)
  obtain ⟨_,rfl⟩:=hb;exact in_stk (List.dropLast_subset _ hx)
 rw [if_neg q] at he;have q24:=q;clear q
 by_cases q:i.op=13
 ·rw [if_pos (.inl q)] at he;rw [if_pos q];refine any_ag F he (fun b st e hb gb gs=>?_);obtain ⟨f1,e⟩:=fits_if (k:=some) e
  have:=hsome e
  subst this;refine kindly_ag (fits_of hm gb f1 (.inr (.inr rfl))).2 ⟨E,T,?_,F.loc,gs⟩;unfold nexts;rw [if_neg (by omega),if_pos (.inr q)]
  simp only [Run.on]
  split <;> simp
 by_cases q21:i.op=21
 ·rw [if_pos (.inr q21)] at he
  repeat rw [if_neg (by omega)]
  rw [if_pos q21];refine any_ag F he (fun b st e hb gb gs=>?_);obtain ⟨f1,e⟩:=fits_if (k:=some) e;exact act_ag (R:=fun _ _=>False) (Run.throw_t H T (fits_of hm gb f1 (.inr (.inr rfl))).2) (fun _ h' E' T' R=>R.elim)
 rw [if_neg (by omega)] at he
 rw [if_neg q];have q13:=q;clear q
 by_cases q:i.op=14
 ·rw [if_pos q] at he ⊢;have hc:=hi.cls (by omega)
  refine act_ag (Run.new_t H T i.a) (fun v h' E' T' R=>put_ag E' T' (F.loc.ext E' hf.loc.vals) (F.stk.ext E' hf.stk) (gs_ref R.1 (.inr ?_)) he (step1 (by omega)))
  rw [R.2,Hier.is_in (Hier.wf_of_may hm) hc]
  simp
 rw [if_neg q] at he ⊢;have p12:=q;clear q
 by_cases q:i.op=15
 ·rw [if_pos q] at he ⊢;refine any_ag F he (fun v st e hb g gs=>?_);obtain ⟨f1,e⟩:=fits_if (k:=fun s=>put m s (Run.ftype f.classes i.a i.b)) e;have hc:=hi.cls (by omega)
  have hfl:=hi.fld (by omega)
  refine act_ag (Run.get_t H T (in_stk hb.1).1 (fits_of hm g f1 (.inr (.inr rfl))).1 hc hfl) (fun x h' E' T' R=>?_);obtain ⟨r1,r2⟩:=R;subst r1;exact put_ag E' T' F.loc gs (gs_of r2 (wf_ty (ftype_ty hm hc hfl)).2) e (step1 (by omega))
 rw [if_neg q] at he ⊢;have p13:=q;clear q
 by_cases q:i.op=16
 ·rw [if_pos q] at he ⊢;unfold Run.s16 Run.pop2;refine any_ag F he (fun v st e hb g gs=>?_);obtain ⟨f1,e⟩:=fits_if (k:=fun s=>take f.classes ⟨3,i.a⟩ s some) e;obtain ⟨hne,e,hr1,gr,gs⟩:=any_of2 gs e;rw [if_neg hne];obtain ⟨f2,e⟩:=fits_if (k:=some) e
  have:=hsome e
  subst this;have hc:=hi.cls (by omega)
  have hfl:=hi.fld (by omega)
  obtain ⟨hb1,rfl⟩:=hb;have hr2:=in_stk (List.dropLast_subset _ hr1);refine kindly_ag (fits_of hm gr f2 (.inr (.inr rfl))).2 (act_ag (Run.put_t H T hr2.1 (in_stk hb1).1 (fits_of hm g f1 (wf_ty (ftype_ty hm hc hfl)).2).1 (fits_of hm gr f2 (.inr (.inr rfl))).1) (fun _ h' E' T' R=>⟨E',T',step1 (by omega),F.loc.ext E' hf.loc.vals,gs.ext E' (fun x hx=>?_)⟩))
  exact in_stk (List.dropLast_subset _ (List.dropLast_subset _ hx))
 rw [if_neg q] at he ⊢;have p14:=q;clear q
 by_cases q:i.op=17
 ·rw [if_pos q] at he ⊢;refine any_ag F he (fun v st e hb g gs=>?_);obtain ⟨f1,e⟩:=fits_if (k:=fun s=>put m s ⟨3,i.a⟩) e;have hv:=(fits_of hm g f1 (.inr (.inr rfl))).2;refine act_ag (Run.cast_t H T hv i.a) (fun _ h' E' T' R=>?_);obtain ⟨r1,r2⟩:=R;subst r1;exact put_ag E' T' F.loc gs (gs_of r2 (.inr (.inr rfl))) e (step1 (by omega))
 rw [if_neg q] at he ⊢;have p15:=q;clear q
 by_cases q:i.op=18
 ·rw [if_pos q] at he ⊢;refine any_ag F he (fun v st e hb g gs=>?_);obtain ⟨f1,e⟩:=fits_if (k:=fun s=>put m s ⟨1,0⟩) e;have hv:=(fits_of hm g f1 (.inr (.inr rfl))).2;refine act_ag (Run.isV_t T hv i.a) (fun x h' E' T' R=>?_);obtain ⟨r1,r2⟩:=R;subst r1;exact put_ag E' T' F.loc gs (gs_kind1 1 r2 (.inl rfl)) e (step1 (by omega))
 rw [if_neg q] at he ⊢;have p16:=q;clear q
 by_cases q:i.op=19
 ·rw [if_pos q] at he ⊢;obtain ⟨t1,t2,t3⟩:=takes_of _ he;have hk:=hi.meth q;have M2:=S.mes _ (Run.meAt_mem (f:=f) (k:=i.a.toNat) (by omega))
  have hl:=F.stk.len;unfold d19.meRef at t1 t2 t3;simp only [List.length_reverse] at t1 t2 t3;unfold Run.s19;rw [if_neg (by omega)]
  refine ⟨E,T,all_of _ _ (by simp;omega) (fun j hj=>?_),rfl,rfl,fun v h' E' R=>?_⟩
  ·have:=t3 ((meAt f i.a.toNat).params.length - 1 - j) (by omega)
   have hx:=F.stk.get (s.stack.length - (meAt f i.a.toNat).params.length+j) (by omega)
   rw [show s.stack.length - 1 - ((meAt f i.a.toNat).params.length - 1 - j)=s.stack.length - (meAt f i.a.toNat).params.length+j by omega] at this
   rw [List.getD_eq_getElem?_getD (l:=(meAt f i.a.toNat).params.reverse),List.getElem?_reverse (by omega),show (meAt f i.a.toNat).params.length - 1 - ((meAt f i.a.toNat).params.length - 1 - j)=j by omega,← List.getD_eq_getElem?_getD] at this
   have ht:=wf_ty (M2.params.2 ((meAt f i.a.toNat).params[j]) (List.getElem_mem hj));have e1:(meAt f i.a.toNat).params.getD j none_=(meAt f i.a.toNat).params[j]:=by rw [List.getD_eq_getElem?_getD,List.getElem?_eq_getElem hj];rfl
   rw [e1] at this ⊢
   have:=(fits_of hm hx this ht.2).1
   rw [List.getD_eq_getElem?_getD,List.getElem?_drop,← List.getD_eq_getElem?_getD,hl];exact this
  ·have hnext:=step1 (by omega)
   have gst:GSs f.classes h' (s.stack.take (s.stack.length - (meAt f i.a.toNat).params.length)) (fr.stk.take (fr.stk.length - (meAt f i.a.toNat).params.length)):=by
    rw [hl];exact (F.stk.take _).ext E' (fun x hx=>in_stk (List.mem_of_mem_take hx))
   unfold Run.sresume
   split at t2
   ·rename_i hr
    rw [if_pos hr]
    have:=hsome t2
    subst this;exact ⟨_,rfl,hnext,F.loc.ext E' hf.loc.vals,gst⟩
   ·rename_i hr
    rw [if_neg hr];unfold put at t2
    split at t2
    ·rename_i hz
     have:=hsome t2
     subst this;have hrt:=wf_ty (ret_ty M2 hr);have g2:=gst.snoc (gs_of (R.resolve_left hr) hrt.2);simp only [Run.on];exact ⟨_,if_pos (by rw [g2.size];exact hz),hnext,F.loc.ext E' hf.loc.vals,g2⟩
    ·cases t2
 rw [if_neg q] at he ⊢;have p17:=q;clear q
 by_cases q:i.op=20
 ·rw [if_pos q] at he ⊢;unfold Run.s20
  split at he
  ·rename_i hr
   rw [if_pos hr];exact ⟨E,T,.inl hr⟩
  ·rename_i hr
   rw [if_neg hr];refine any_ag F he (fun v st e hb g gs=>?_);obtain ⟨f1,e⟩:=fits_if (k:=some) e;have ho:=(fits_of hm g f1 (wf_ty (ret_ty M hr)).2).1;rw [if_pos ho];exact ⟨E,T,.inr ho⟩
 rw [if_neg q] at he ⊢;have p18:=q;clear q
 have:=hi.op
 omega
end
end Chk
end Go.Proofs.Ytncmhenfgbcihab
