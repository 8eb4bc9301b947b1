/- Parts of the proof: RunI, Rform, RunS, Vl, HierW, Up. -/
import Derived.Test.YtncmhenfgbcihabG01
import Derived.WalkSpells
import Derived.WalkLawsBesides
import Derived.Lib.Hide
import Derived.RangeFuncNested
import Derived.RangeFuncBound
import Derived.RangeFuncCalls
import Derived.RangeFuncLeaves
import Derived.RangeFuncFrom
import Derived.Shelf.Abstract
import Derived.OwnWalkIn
import Derived.TacticsInMore
import Derived.LoopNIn
import Derived.LoopIn
namespace Go.Proofs.Ytncmhenfgbcihab
open Go.RowKit
set_option linter.unusedVariables false
set_option linter.unusedSimpArgs false
namespace Run
open D Num
def VlOk (n : Nat) (v : Vl) : Prop:=Ok v.n ∧ 0 ≤ v.kind ∧ v.kind ≤ 9 ∧ (v.kind = 3 → -1 ≤ v.n ∧ v.n < n)
def VtOk (n : Nat) (v : Vl) : Prop:=VlOk n v ∧ 1 ≤ v.kind ∧ v.kind ≤ 3
def kd (l : List Vl) (i : Nat) : Int:=(l.getD i Vl.nil).kind
def Paired (l : List Vl) : Prop:=(∀ i,kd l i = 2 → kd l (i + 1) = 9) ∧ (∀ i,kd l i = 9 → 0 < i ∧ kd l (i - 1) = 2)
structure SlotsOk (n : Nat) (l : List Vl) : Prop where
  vals : ∀ i,VlOk n (l.getD i Vl.nil)
  pair : Paired l
def StkOk (n : Nat) (l : List Vl) : Prop:=∀ v ∈ l,VtOk n v
theorem nil_ok (n : Nat) : VlOk n Vl.nil:=⟨by simp [Ok,Vl.nil],by simp [Vl.nil],by simp [Vl.nil],by simp [Vl.nil]⟩
theorem VlOk.mono {n m : Nat} {v : Vl} (h : VlOk n v) (hm : n ≤ m) : VlOk m v:=⟨h.1,h.2.1,h.2.2.1,fun e=>⟨(h.2.2.2 e).1,by have:=(h.2.2.2 e).2;omega⟩⟩
theorem VtOk.mono {n m : Nat} {v : Vl} (h : VtOk n v) (hm : n ≤ m) : VtOk m v:=⟨h.1.mono hm,h.2⟩
theorem SlotsOk.mono {n m : Nat} {l : List Vl} (h : SlotsOk n l) (hm : n ≤ m) : SlotsOk m l:=⟨fun i=>(h.vals i).mono hm,h.pair⟩
theorem StkOk.mono {n m : Nat} {l : List Vl} (h : StkOk n l) (hm : n ≤ m) : StkOk m l:=fun v hv=>(h v hv).mono hm
theorem getD_set (l : List Vl) (j i : Nat) (x : Vl) : (l.set j x).getD i Vl.nil = if i = j ∧ j < l.length then x else l.getD i Vl.nil:=by
  rw [List.getD_eq_getElem?_getD,List.getD_eq_getElem?_getD,List.getElem?_set]
  by_cases e : j = i
  · subst e
    by_cases h : j < l.length
    · simp [h]
    · simp [h]
  · have e' : ¬ i = j:=fun h=>e h.symm
    simp [e,e']
theorem getD_out {l : List Vl} {i : Nat} (h : l.length ≤ i) : l.getD i Vl.nil = Vl.nil:=by
  rw [List.getD_eq_getElem?_getD,List.getElem?_eq_none h];rfl
theorem set_nil (l : List Vl) (j i : Nat) : (l.set j Vl.nil).getD i Vl.nil = if i = j then Vl.nil else l.getD i Vl.nil:=by
  rw [getD_set]
  by_cases e : i = j
  · subst e
    by_cases h : i < l.length
    · simp [h]
    · rw [if_neg (by omega),if_pos rfl,getD_out (by omega)]
  · rw [if_neg (by omega),if_neg e]
theorem lose_len (l : List Vl) (a : Nat) : (lose l a).length = l.length:=by
  unfold lose;split
  · simp
  · split <;> simp
theorem store_len (l : List Vl) (a : Nat) (v : Vl) : (store l a v).length = l.length:=by
  unfold store;split <;> simp [lose_len]
theorem lose_getD (l : List Vl) (a i : Nat) : (lose l a).getD i Vl.nil = if i = a ∨ (kd l a = 9 ∧ i + 1 = a) ∨ (kd l a = 2 ∧ i = a + 1) then Vl.nil else l.getD i Vl.nil:=by
  unfold lose
  show (if kd l a = 9 then _ else if kd l a = 2 then _ else _ : List Vl).getD i Vl.nil = _
  by_cases h9 : kd l a = 9
  · rw [if_pos h9,set_nil,set_nil]
    by_cases e : i = a
    · rw [if_pos e,if_pos (.inl e)]
    · rw [if_neg e]
      by_cases e2 : i + 1 = a
      · rw [if_pos (by omega),if_pos (.inr (.inl ⟨h9,e2⟩))]
      · rw [if_neg (by omega),if_neg (by omega)]
  · rw [if_neg h9]
    by_cases h2 : kd l a = 2
    · rw [if_pos h2,set_nil,set_nil]
      by_cases e : i = a
      · rw [if_pos e,if_pos (.inl e)]
      · rw [if_neg e]
        by_cases e2 : i = a + 1
        · rw [if_pos e2,if_pos (.inr (.inr ⟨h2,e2⟩))]
        · rw [if_neg e2,if_neg (by omega)]
    · rw [if_neg h2,set_nil]
      by_cases e : i = a
      · rw [if_pos e,if_pos (.inl e)]
      · rw [if_neg e,if_neg (by omega)]
theorem lose_kd (l : List Vl) (a i : Nat) : kd (lose l a) i = if i = a ∨ (kd l a = 9 ∧ i + 1 = a) ∨ (kd l a = 2 ∧ i = a + 1) then 0 else kd l i:=by
  unfold kd
  rw [lose_getD]
  unfold kd
  split <;> rfl
theorem lose_paired {l : List Vl} (h : Paired l) (a : Nat) : Paired (lose l a):=by
  obtain ⟨hA,hB⟩:=h
  have a1:=hA a
  have b1:=hB a
  refine ⟨fun i hi=>?_,fun i hi=>?_⟩
  · rw [lose_kd] at hi ⊢
    split at hi
    · omega
    · rename_i hn
      have:=hA i hi
      rw [if_neg,this]
      rintro (e | ⟨e1,e2⟩ | ⟨e1,e2⟩)
      · subst e;exact hn (.inr (.inl ⟨this,rfl⟩))
      · have:=(b1 e1).2
        rw [show a - 1 = i + 1 by omega] at this
        omega
      · exact hn (.inl (by omega))
  · rw [lose_kd] at hi
    split at hi
    · omega
    · rename_i hn
      have hb:=hB i hi
      rw [lose_kd]
      refine ⟨hb.1,?_⟩
      rw [if_neg,hb.2]
      rintro (e | ⟨e1,e2⟩ | ⟨e1,e2⟩)
      · have h2:=hb.2
        rw [e] at h2
        exact hn (.inr (.inr ⟨h2,by omega⟩))
      · exact hn (.inl (by omega))
      · have:=a1 e1
        rw [show i - 1 = a + 1 by omega] at hb
        omega
theorem lose_ok {n : Nat} {l : List Vl} (h : SlotsOk n l) (a : Nat) : SlotsOk n (lose l a):=by
  refine ⟨fun i=>?_,lose_paired h.pair a⟩
  rw [lose_getD]
  split
  · exact nil_ok n
  · exact h.vals i
theorem kd_set (l : List Vl) (j i : Nat) (x : Vl) : kd (l.set j x) i = if i = j ∧ j < l.length then x.kind else kd l i:=by
  unfold kd;rw [getD_set];split <;> rfl
theorem store_ok {n : Nat} {l : List Vl} (h : SlotsOk n l) {a : Nat} {v : Vl} (hv : VtOk n v) (ha : a < l.length) (ha2 : v.kind = 2 → a + 1 < l.length) : SlotsOk n (store l a v):=by
  unfold store
  by_cases h2 : v.kind = 2
  · rw [if_pos h2]
    have hl:=lose_ok (lose_ok h a) (a + 1)
    have ha2:=ha2 h2
    have k0 : kd (lose (lose l a) (a + 1)) a = 0:=by
      rw [lose_kd]
      split
      · rfl
      · rw [lose_kd,if_pos (.inl rfl)]
    have k1 : kd (lose (lose l a) (a + 1)) (a + 1) = 0:=by rw [lose_kd,if_pos (.inl rfl)]
    have hlen : (lose (lose l a) (a + 1)).length = l.length:=by rw [lose_len,lose_len]
    generalize lose (lose l a) (a + 1) = q at *
    obtain ⟨hvals,hA,hB⟩:=hl
    refine ⟨fun i=>?_,fun i hi=>?_,fun i hi=>?_⟩
    · rw [getD_set]
      split
      · exact hv.1
      · rw [getD_set]
        split
        · exact ⟨by unfold Ok;simp,by simp,by simp,by simp⟩
        · exact hvals i
    · rw [kd_set,kd_set] at hi ⊢
      simp only [List.length_set] at hi ⊢
      by_cases e : i = a
      · subst e;rw [if_neg (by omega),if_pos (by omega)]
      · rw [if_neg (by omega)] at hi
        by_cases e1 : i = a + 1
        · rw [if_pos (by omega)] at hi;simp at hi
        · rw [if_neg (by omega)] at hi
          have:=hA i hi
          rw [if_neg,if_neg (by omega),this]
          rintro ⟨e2,_⟩
          rw [e2,k0] at this;omega
    · rw [kd_set,kd_set] at hi
      simp only [List.length_set] at hi
      by_cases e : i = a
      · subst e;rw [if_pos (by omega)] at hi;omega
      · rw [if_neg (by omega)] at hi
        by_cases e1 : i = a + 1
        · subst e1
          rw [kd_set,kd_set]
          simp only [List.length_set]
          rw [if_pos (by omega)]
          exact ⟨by omega,h2⟩
        · rw [if_neg (by omega)] at hi
          have:=hB i hi
          rw [kd_set,kd_set]
          simp only [List.length_set]
          refine ⟨this.1,?_⟩
          rw [if_neg,if_neg,this.2]
          · rintro ⟨e2,_⟩
            have h3:=this.2
            rw [e2,k1] at h3;omega
          · rintro ⟨e2,_⟩
            have h3:=this.2
            rw [e2,k0] at h3;omega
  · rw [if_neg h2]
    have hl:=lose_ok h a
    have k0 : kd (lose l a) a = 0:=by rw [lose_kd,if_pos (.inl rfl)]
    generalize lose l a = q at *
    obtain ⟨hvals,hA,hB⟩:=hl
    have hk:=hv.2
    refine ⟨fun i=>?_,fun i hi=>?_,fun i hi=>?_⟩
    · rw [getD_set]
      split
      · exact hv.1
      · exact hvals i
    · rw [kd_set] at hi ⊢
      split at hi
      · omega
      · have:=hA i hi
        rw [if_neg,this]
        rintro ⟨e,_⟩
        rw [e,k0] at this;omega
    · rw [kd_set] at hi
      split at hi
      · omega
      · have:=hB i hi
        rw [kd_set,if_neg]
        · exact this
        · rintro ⟨e,_⟩
          have h3:=this.2
          rw [e,k0] at h3;omega
theorem pair_lt {l : List Vl} (h : Paired l) {i : Nat} (hi : kd l i = 2) : i + 1 < l.length:=by
  have:=h.1 i hi
  refine Nat.lt_of_not_le (fun hle=>?_)
  unfold kd at this
  rw [getD_out hle] at this
  simp [Vl.nil] at this
theorem fresh_ok (n k : Nat) : SlotsOk n (List.replicate k Vl.nil):=by
  have e : ∀ i,(List.replicate k Vl.nil).getD i Vl.nil = Vl.nil:=fun i=>by
    rw [List.getD_eq_getElem?_getD,List.getElem?_replicate];split <;> rfl
  refine ⟨fun i=>by rw [e];exact nil_ok n,fun i hi=>?_,fun i hi=>?_⟩
  · unfold kd at hi;rw [e] at hi;simp [Vl.nil] at hi
  · unfold kd at hi;rw [e] at hi;simp [Vl.nil] at hi
structure ObOk (l : List Cls) (n : Nat) (o : Ob) : Prop where
  lo : 0 ≤ o.cls
  hi : o.cls < l.length
  keys : o.held.map (·.1) = (fresh l o.cls).map (·.1)
  vals : ∀ x ∈ o.held,VtOk n x.2
  kinds : ∀ x ∈ o.held,x.2.kind = (ftype l x.1.1 x.1.2).kind
structure HpOk (l : List Cls) (input : List Int) (fuel : Nat) (h : Hp) : Prop where
  many : h.objs.length ≤ 100
  obs : ∀ o ∈ h.objs,ObOk l h.objs.length o
  out : ∀ x ∈ h.out,Ok x
  outs : h.out.length ≤ h.steps
  used : h.used ≤ input.length
  steps : h.steps ≤ fuel
theorem ObOk.mono {l : List Cls} {n m : Nat} {o : Ob} (h : ObOk l n o) (hm : n ≤ m) : ObOk l m o:=⟨h.lo,h.hi,h.keys,fun x hx=>(h.vals x hx).mono hm,h.kinds⟩
theorem fields_ok {l : List Cls} {n c : Nat} {fs : List Ty} (hf : fs.all (Hier.ty l.length) = true) : ∀ x ∈ fieldsOf c fs,VtOk n x.2:=by
  intro x hx
  unfold fieldsOf at hx
  obtain ⟨k,hk,rfl⟩:=List.mem_map.1 hx
  have hk' : k < fs.length:=by simpa using hk
  rw [List.getD_eq_getElem?_getD,List.getElem?_eq_getElem hk']
  have h1:=List.all_eq_true.1 hf _ (List.getElem_mem hk')
  simp only [Option.getD_some]
  generalize fs[k] = t at *
  simp only [Hier.ty] at h1
  unfold zero VtOk VlOk Ok
  by_cases e : t.kind = 3
  · rw [if_pos e];simp <;> omega
  · rw [if_neg e]
    rw [if_neg e] at h1
    by_cases e1 : t.kind = 1 ∨ t.kind = 2
    · simp <;> omega
    · rw [if_neg e1] at h1;cases h1
theorem may_fields {l : List Cls} (hm : Hier.may l = true) {c : Nat} (hc : c < l.length) : (Hier.at' l c).fields.all (Hier.ty l.length) = true:=by
  have:=((Hier.may_iff l).1 hm).2 c hc
  rw [Hier.at_eq hc]
  unfold Hier.cls at this
  rw [Bool.and_eq_true] at this
  exact this.2
theorem fresh_vals {l : List Cls} (hm : Hier.may l = true) (n : Nat) (c : Int) : ∀ x ∈ fresh l c,VtOk n x.2:=by
  intro x hx
  unfold fresh at hx
  obtain ⟨k,hk,hx⟩:=List.mem_flatMap.1 hx
  split at hx
  · exact fields_ok (may_fields hm (by simpa using hk)) x hx
  · cases hx
theorem fresh_kinds {l : List Cls} (c : Int) : ∀ x ∈ fresh l c,x.2.kind = (ftype l x.1.1 x.1.2).kind:=by
  intro x hx
  unfold fresh at hx
  obtain ⟨k,hk,hx⟩:=List.mem_flatMap.1 hx
  split at hx
  · unfold fieldsOf at hx
    obtain ⟨j,hj,rfl⟩:=List.mem_map.1 hx
    simp only [ftype,Int.toNat_natCast,zero]
    split
    · rename_i e;rw [e]
    · rfl
  · cases hx
theorem find_mem {l : List ((Int × Int) × Vl)} {k : Int × Int} (h : k ∈ l.map (·.1)) : ∃ x ∈ l,x.1 = k ∧ find l k = x.2:=by
  unfold find
  cases hf : l.find? fun x=>decide (x.1 = k) with
  | none =>
    rw [List.find?_eq_none] at hf
    obtain ⟨x,hx,e⟩:=List.mem_map.1 h
    exact absurd (by simpa using e) (hf x hx)
  | some x =>
    have h1:=List.find?_some hf
    exact ⟨x,List.mem_of_find?_eq_some hf,by simpa using h1,rfl⟩
theorem fresh_has {l : List Cls} {c d k : Int} (hd : 0 ≤ d ∧ d < l.length) (hi : Hier.is l c d = true) (hk : 0 ≤ k ∧ k < ((Hier.at' l d.toNat).fields.length : Int)) : (d,k) ∈ (fresh l c).map (·.1):=by
  rw [List.mem_map]
  have e1 : ((d.toNat : Nat) : Int) = d:=by omega
  have e2 : ((k.toNat : Nat) : Int) = k:=by omega
  refine ⟨((d,k),zero ((Hier.at' l d.toNat).fields.getD k.toNat ⟨0,0⟩)),?_,rfl⟩
  unfold fresh
  rw [List.mem_flatMap]
  refine ⟨d.toNat,by simp;omega,?_⟩
  rw [e1,if_pos hi]
  unfold fieldsOf
  rw [List.mem_map]
  exact ⟨k.toNat,by simp;omega,by rw [e1,e2]⟩
theorem become_keys (l : List ((Int × Int) × Vl)) (k : Int × Int) (v : Vl) : (become l k v).map (·.1) = l.map (·.1):=by
  unfold become
  rw [List.map_map]
  apply List.map_congr_left
  intro x _
  simp only [Function.comp]
  split
  · rename_i e;exact e.symm
  · rfl
theorem become_vals {n : Nat} {l : List ((Int × Int) × Vl)} {k : Int × Int} {v : Vl} (h : ∀ x ∈ l,VtOk n x.2) (hv : VtOk n v) : ∀ x ∈ become l k v,VtOk n x.2:=by
  intro x hx
  unfold become at hx
  obtain ⟨y,hy,rfl⟩:=List.mem_map.1 hx
  split
  · exact hv
  · exact h y hy
theorem become_kinds {l : List Cls} {q : List ((Int × Int) × Vl)} {k : Int × Int} {v : Vl} (h : ∀ x ∈ q,x.2.kind = (ftype l x.1.1 x.1.2).kind) (hv : v.kind = (ftype l k.1 k.2).kind) : ∀ x ∈ become q k v,x.2.kind = (ftype l x.1.1 x.1.2).kind:=by
  intro x hx
  unfold become at hx
  obtain ⟨y,hy,rfl⟩:=List.mem_map.1 hx
  split
  · exact hv
  · exact h y hy
theorem of_kind {l : List Cls} {h : Hp} {v : Vl} {t : Ty} (h1 : ofT l h v t = true) : v.kind = t.kind:=by
  unfold ofT at h1
  simp only [Bool.and_eq_true,decide_eq_true_eq] at h1
  exact h1.1
theorem obj_mem {h : Hp} {n : Int} (h0 : 0 ≤ n) (h1 : n < h.objs.length) : obj h n ∈ h.objs:=by
  unfold obj
  rw [List.getD_eq_getElem?_getD,List.getElem?_eq_getElem (by omega)]
  exact List.getElem_mem _
def ResOk {α : Type} (l : List Cls) (input : List Int) (fuel : Nat) (h0 : Hp) (R : α → Hp → Prop) : Res α → Prop
  | .ok a h=>HpOk l input fuel h ∧ h0.objs.length ≤ h.objs.length ∧ h.steps = h0.steps ∧ R a h
  | .thrown o h=>HpOk l input fuel h ∧ h0.objs.length ≤ h.objs.length ∧ h.steps = h0.steps ∧ o < h.objs.length
  | .stop _ h=>HpOk l input fuel h ∧ h0.objs.length ≤ h.objs.length ∧ h.steps = h0.steps
section
variable {l : List Cls} {input : List Int} {fuel : Nat} {h : Hp}
theorem new_ok (hm : Hier.may l = true) (H : HpOk l input fuel h) {c : Int} (hc : 0 ≤ c ∧ c < l.length) : ResOk l input fuel h (fun v h=>VtOk h.objs.length v ∧ v.kind = 3 ∧ 0 ≤ v.n) (new l c h):=by
  unfold new
  split
  · exact ⟨H,Nat.le_refl _,rfl⟩
  · refine ⟨⟨by simp;omega,fun o ho=>?_,H.out,H.outs,H.used,H.steps⟩,by simp,rfl,?_⟩
    · simp only [List.length_append,List.length_cons,List.length_nil]
      rcases List.mem_append.1 ho with ho | ho
      · exact (H.obs o ho).mono (by omega)
      · have : o = ⟨c,fresh l c⟩:=by simpa using ho
        subst this
        exact ⟨hc.1,hc.2,rfl,fresh_vals hm _ _,fresh_kinds _⟩
    · refine ⟨⟨⟨?_,?_,?_,?_⟩,?_,?_⟩,rfl,?_⟩ <;> simp [Ok] <;> omega
theorem raise_ok {α : Type} {R : α → Hp → Prop} (hm : Hier.may l = true) (H : HpOk l input fuel h) {c : Int} (hc : 0 ≤ c ∧ c < l.length) : ResOk l input fuel h R (raise l c h : Res α):=by
  have:=new_ok hm H hc
  unfold raise
  cases hn : new l c h with
  | ok v h' =>
    rw [hn] at this
    obtain ⟨h1,h2,h3,h4,h5,h6⟩:=this
    have:=h4.1.2.2.2 h5
    exact ⟨h1,h2,h3,by omega⟩
  | thrown o h'=>rw [hn] at this;exact this
  | stop e h'=>rw [hn] at this;exact this
theorem throw_ok {α : Type} {R : α → Hp → Prop} (hm : Hier.may l = true) (H : HpOk l input fuel h) {v : Vl} (hv : VlOk h.objs.length v) : ResOk l input fuel h R (throw l v h : Res α):=by
  unfold throw
  split
  · exact ⟨H,Nat.le_refl _,rfl⟩
  · split
    · have:=(Hier.may_iff l).1 hm
      exact raise_ok hm H (by omega)
    · rename_i h1 h2
      have:=hv.2.2.2 (by omega)
      exact ⟨H,Nat.le_refl _,rfl,by omega⟩
theorem of_ref {v : Vl} {c : Int} (h1 : ofT l h v ⟨3,c⟩ = true) : v.kind = 3 ∧ (v.n < 0 ∨ Hier.is l (obj h v.n).cls c = true):=by
  unfold ofT at h1
  simp only [Bool.and_eq_true,Bool.or_eq_true,decide_eq_true_eq] at h1
  obtain ⟨h1,h2⟩:=h1
  refine ⟨h1,?_⟩
  rcases h2 with (h2 | h2) | h2
  · simp at h2
  · exact .inl h2
  · exact .inr h2
theorem get_ok (hm : Hier.may l = true) (H : HpOk l input fuel h) {v : Vl} (hv : VlOk h.objs.length v) {c k : Int} (hc : 0 ≤ c ∧ c < l.length) (hk : 0 ≤ k ∧ k < ((Hier.at' l c.toNat).fields.length : Int)) : ResOk l input fuel h (fun x h'=>h' = h ∧ VtOk h.objs.length x ∧ x.kind = (ftype l c k).kind) (get l v c k h):=by
  unfold get
  cases ho : ofT l h v ⟨3,c⟩
  · exact ⟨H,Nat.le_refl _,rfl⟩
  · rw [if_neg (by simp)]
    obtain ⟨h3,h4⟩:=of_ref ho
    split
    · have:=(Hier.may_iff l).1 hm
      exact raise_ok hm H (by omega)
    · rename_i hn
      have hvn:=hv.2.2.2 h3
      have hO:=H.obs _ (obj_mem (h:=h) (n:=v.n) (by omega) (by omega))
      have hi : Hier.is l (obj h v.n).cls c = true := by rcases h4 with h4 | h4; · omega
                                                         · exact h4
      have hmem:=fresh_has hc hi hk
      rw [← hO.keys] at hmem
      obtain ⟨x,hx,e1,e⟩:=find_mem hmem
      refine ⟨H,Nat.le_refl _,rfl,rfl,by rw [e];exact hO.vals x hx,?_⟩
      rw [e,hO.kinds x hx,e1]
theorem put_ok (hm : Hier.may l = true) (H : HpOk l input fuel h) {r v : Vl} (hr : VlOk h.objs.length r) (hv : VtOk h.objs.length v) {c k : Int} : ResOk l input fuel h (fun _ _=>True) (put l r c k v (ftype l c k) h):=by
  unfold put
  split
  · exact ⟨H,Nat.le_refl _,rfl⟩
  · split
    · exact ⟨H,Nat.le_refl _,rfl⟩
    · rename_i h0 h1
      obtain ⟨h3,h4⟩:=of_ref (by simpa using h1)
      split
      · have:=(Hier.may_iff l).1 hm
        exact raise_ok hm H (by omega)
      · have hvn:=hr.2.2.2 h3
        have hO:=H.obs _ (obj_mem (h:=h) (n:=r.n) (by omega) (by omega))
        refine ⟨⟨by simpa using H.many,fun o ho=>?_,H.out,H.outs,H.used,H.steps⟩,by simp,rfl,trivial⟩
        simp only [List.length_set]
        rcases List.mem_or_eq_of_mem_set ho with ho | ho
        · exact H.obs o ho
        · subst ho
          exact ⟨hO.lo,hO.hi,(become_keys _ _ _).trans hO.keys,become_vals hO.vals hv,become_kinds hO.kinds (of_kind (by simpa using h0))⟩
theorem cast_ok (hm : Hier.may l = true) (H : HpOk l input fuel h) {v : Vl} {c : Int} : ResOk l input fuel h (fun _ h'=>h' = h) (cast l v c h):=by
  unfold cast
  split
  · exact ⟨H,Nat.le_refl _,rfl⟩
  · split
    · have:=(Hier.may_iff l).1 hm
      exact raise_ok hm H (by omega)
    · exact ⟨H,Nat.le_refl _,rfl,rfl⟩
theorem isV_ok (H : HpOk l input fuel h) {v : Vl} {c : Int} : ResOk l input fuel h (fun x h'=>h' = h ∧ VtOk h.objs.length x ∧ x.kind = 1) (isV l v c h):=by
  unfold isV
  split
  · exact ⟨H,Nat.le_refl _,rfl⟩
  · refine ⟨H,Nat.le_refl _,rfl,rfl,?_,rfl⟩
    split <;> refine ⟨⟨?_,?_,?_,?_⟩,?_,?_⟩ <;> simp [Ok]
theorem numOf_ok (kind op a b : Int) (ha : Ok a) (hb : Ok b) : Ok (numOf kind op a b).1:=by
  unfold numOf
  split
  · unfold Num.int;exact wrap32_ok _
  · exact Num.long_ok op a b ha
theorem reckon_ok (hm : Hier.may l = true) (H : HpOk l input fuel h) {a b : Vl} (ha : Ok a.n) (hb : Ok b.n) {kind op : Int} (hk : kind = 1 ∨ kind = 2) : ResOk l input fuel h (fun x h'=>h' = h ∧ VtOk h.objs.length x ∧ x.kind = kind) (reckon l a b kind op h):=by
  unfold reckon
  split
  · exact ⟨H,Nat.le_refl _,rfl⟩
  · split
    · have:=(Hier.may_iff l).1 hm
      exact raise_ok hm H (by omega)
    · refine ⟨H,Nat.le_refl _,rfl,rfl,⟨⟨numOf_ok kind op a.n b.n ha hb,?_,?_,?_⟩,?_,?_⟩,rfl⟩ <;> simp <;> omega
end
end Run
end Go.Proofs.Ytncmhenfgbcihab
namespace Go.Proofs.Ytncmhenfgbcihab
open Go.RowKit
namespace Rform
open D Num Go.Proofs.Ytncmhenfgbcihab.Form
def reg (regs n kind : Int) : Bool:=rng n 0 (regs + 1 - wide kind)
def fk (cl : List Cls) (c n : Int) : Int:=((Hier.at' cl c.toNat).fields.getD n.toNat ⟨0,0⟩).kind
def regsOk (regs : Int) (ps : List Ty) (xs : List Int) : Bool:=(List.range ps.length).all fun k=>reg regs (xs.getD k 0) (ps.getD k ⟨0,0⟩).kind
def mAt (ms : List Me) (k : Int) : List Ty:=((ms.map (·.params)).getD k.toNat [])
def num (i : Ins) : Bool :=
  if i.op = 1 then decide (wrap32 i.n = i.n) else if i.op = 2 then true else if i.op = 5 ∨ i.op = 6 then rng i.n 1 9
  else if i.op = 14 ∨ i.op = 15 then true else decide (i.n = 0)
def body (cl : List Cls) (ms : List Me) (ncode regs retk : Int) (i : Ins) : Bool :=
  if i.op = 1 then reg regs i.a 1 && decide (i.b = 0) && decide (i.c = 0)
  else if i.op = 2 ∨ i.op = 24 then reg regs i.a 2 && decide (i.b = 0) && decide (i.c = 0)
  else if i.op = 3 ∨ i.op = 21 ∨ i.op = 22 then reg regs i.a 3 && decide (i.b = 0) && decide (i.c = 0)
  else if i.op = 4 then rng i.c 1 4 && (reg regs i.a i.c && reg regs i.b i.c)
  else if i.op = 5 then reg regs i.a 1 && (reg regs i.b 1 && reg regs i.c 1)
  else if i.op = 6 then reg regs i.a 2 && (reg regs i.b 2 && reg regs i.c 2)
  else if i.op = 7 then reg regs i.a 2 && reg regs i.b 1 && decide (i.c = 0)
  else if i.op = 8 then reg regs i.a 1 && reg regs i.b 2 && decide (i.c = 0)
  else if i.op = 9 then reg regs i.a 1 && (reg regs i.b 2 && reg regs i.c 2)
  else if i.op = 10 then rng i.a 0 ncode && decide (i.b = 0) && decide (i.c = 0)
  else if i.op = 11 then rng i.a 0 ncode && rng i.b 1 5 && reg regs i.c 1
  else if i.op = 12 then rng i.a 0 ncode && decide (i.b = 0) && reg regs i.c 3
  else if i.op = 13 ∨ i.op = 16 then reg regs i.a 3 && rng i.b 0 cl.length && decide (i.c = 0)
  else if i.op = 14 ∨ i.op = 15 then rng i.c 0 cl.length && rng i.n 0 (nf cl i.c) && reg regs i.a (fk cl i.c i.n) && reg regs i.b 3
  else if i.op = 17 then reg regs i.a 1 && reg regs i.b 1 && rng i.c 0 cl.length
  else if i.op = 18 then rng i.a 0 ms.length && decide (i.args.length = (mAt ms i.a).length) && regsOk regs (mAt ms i.a) i.args && decide (i.b = 0) && decide (i.c = 0)
  else if i.op = 19 then rng i.b 1 4 && reg regs i.a i.b && decide (i.c = 0)
  else if i.op = 23 then rng i.b 1 3 && reg regs i.a i.b && decide (i.c = 0)
  else if i.op = 20 then decide (i.b = 0) && decide (i.c = 0) && (if retk = 0 then decide (i.a = 0) else reg regs i.a retk)
  else false
def ins (f : Fi) (m : Me) (i : Ins) : Bool :=
  (decide (i.op = 18) || decide (i.args.length = 0)) && body f.classes f.methods m.code.length m.regs m.ret.kind i && num i
def rme (f : Fi) (m : Me) : Bool :=
  head f.classes.length m 2400 && decide (m.stack = 0) && decide (m.locals = 0) && rng m.regs (max 1 (slots m.params : Nat)) 91 && m.code.all (ins f m)
def rmay (f : Fi) : Bool:=Hier.may f.classes && rng f.methods.length 1 9 && f.methods.all (rme f)
def kinds (op : Int) : Option (Int × Int × Int) :=
  if op = 1 then some (1,0,0) else if op = 2 ∨ op = 24 then some (2,0,0) else if op = 3 ∨ op = 21 ∨ op = 22 then some (3,0,0)
  else if op = 5 then some (1,1,1) else if op = 6 then some (2,2,2) else if op = 7 then some (2,1,0) else if op = 8 then some (1,2,0) else if op = 9 then some (1,2,2)
  else if op = 10 then some (-1,0,0) else if op = 11 then some (-1,-1,1) else if op = 12 then some (-1,0,3) else if op = 13 ∨ op = 16 then some (3,-1,0)
  else if op = 14 ∨ op = 15 then some (-1,3,-1) else if op = 17 then some (1,3,-1) else if op = 18 ∨ op = 20 then some (-1,0,0) else if op = 19 ∨ op = 23 then some (-1,-1,0)
  else if op = 4 then some (-1,-1,-1) else none
def fok (regs kind n : Int) : Bool:=if kind = 0 then decide (n = 0) else if 0 < kind then reg regs n kind else true
end Rform
end Go.Proofs.Ytncmhenfgbcihab
namespace Go.Proofs.Ytncmhenfgbcihab
open Go.RowKit
set_option linter.unusedVariables false
set_option linter.unusedSimpArgs false
namespace Run
open D Num
def RetOk (m : Me) (n : Nat) (v : Vl) : Prop:=if m.ret.kind = 0 then v = Vl.nil else VtOk n v
def From (l : List Cls) (input : List Int) (fuel : Nat) (h0 h : Hp) : Prop:=HpOk l input fuel h ∧ h0.objs.length ≤ h.objs.length ∧ h.steps = h0.steps
def ActOk {Fr : Type} (FrOk : Me → Nat → Fr → Prop) (f : Fi) (input : List Int) (fuel : Nat) (m : Me) (h0 : Hp) : Act Fr → Prop
  | .go fr h=>From f.classes input fuel h0 h ∧ FrOk m h.objs.length fr
  | .back v h=>From f.classes input fuel h0 h ∧ RetOk m h.objs.length v
  | .thrown o h=>From f.classes input fuel h0 h ∧ o < h.objs.length
  | .stop _ h=>From f.classes input fuel h0 h
  | .call k args fr h=>From f.classes input fuel h0 h ∧ FrOk m h.objs.length fr ∧ (∀ v ∈ args,VtOk h.objs.length v) ∧ args.length = (meAt f k).params.length ∧ k < f.methods.length
theorem From.refl {l : List Cls} {input : List Int} {fuel : Nat} {h : Hp} (H : HpOk l input fuel h) : From l input fuel h h:=⟨H,Nat.le_refl _,rfl⟩
theorem act_ok {Fr α : Type} {FrOk : Me → Nat → Fr → Prop} {f : Fi} {input : List Int} {fuel : Nat} {m : Me} {h0 : Hp} {R : α → Hp → Prop} {r : Res α} {k : α → Hp → Act Fr}
    (hr : ResOk f.classes input fuel h0 R r) (hk : ∀ a h,From f.classes input fuel h0 h → R a h → ActOk FrOk f input fuel m h0 (k a h)) : ActOk FrOk f input fuel m h0 (r.act k):=by
  cases r with
  | ok a h=>exact hk a h ⟨hr.1,hr.2.1,hr.2.2.1⟩ hr.2.2.2
  | thrown o h=>exact ⟨⟨hr.1,hr.2.1,hr.2.2.1⟩,hr.2.2.2⟩
  | stop e h=>exact hr
structure MachOk {Fr : Type} (M : Mach Fr) (FrOk : Me → Nat → Fr → Prop) (f : Fi) (input : List Int) (fuel : Nat) : Prop where
  may : Hier.may f.classes = true
  step : ∀ m ∈ f.methods,∀ i ∈ m.code,∀ fr h,HpOk f.classes input fuel h → h.out.length < h.steps → FrOk m h.objs.length fr → ActOk FrOk f input fuel m h (M.step f input m i fr h)
  enter : ∀ m ∈ f.methods,∀ n args,(∀ v ∈ args,VtOk n v) → args.length = m.params.length → (∀ i (h : i < args.length),(args[i].kind = (m.params.getD i ⟨0,0⟩).kind)) → FrOk m n (M.enter m args)
  resume : ∀ m ∈ f.methods,∀ callee n v fr fr',FrOk m n fr → RetOk callee n v → M.resume m callee fr v = some fr' → FrOk m n fr'
  caught : ∀ m ∈ f.methods,∀ n o at_ fr fr',o < n → n ≤ 100 → FrOk m n fr → M.caught m fr at_ o = some fr' → FrOk m n fr'
  mono : ∀ m n n' fr,n ≤ n' → FrOk m n fr → FrOk m n' fr
def CallOk (f : Fi) (input : List Int) (fuel : Nat) (m : Me) (h0 : Hp) : Res Vl → Prop
  | .ok v h=>(HpOk f.classes input fuel h ∧ h0.objs.length ≤ h.objs.length ∧ h0.steps ≤ h.steps) ∧ RetOk m h.objs.length v
  | .thrown o h=>(HpOk f.classes input fuel h ∧ h0.objs.length ≤ h.objs.length ∧ h0.steps ≤ h.steps) ∧ o < h.objs.length
  | .stop _ h=>HpOk f.classes input fuel h ∧ h0.objs.length ≤ h.objs.length ∧ h0.steps ≤ h.steps
theorem CallOk.from {f : Fi} {input : List Int} {fuel : Nat} {m : Me} {h0 h1 : Hp} {r : Res Vl} (h : CallOk f input fuel m h1 r) (h2 : h0.objs.length ≤ h1.objs.length) (h3 : h0.steps ≤ h1.steps) : CallOk f input fuel m h0 r:=by
  cases r with
  | ok v h'=>obtain ⟨⟨a,b,c⟩,d⟩:=h;exact ⟨⟨a,by omega,by omega⟩,d⟩
  | thrown o h'=>obtain ⟨⟨a,b,c⟩,d⟩:=h;exact ⟨⟨a,by omega,by omega⟩,d⟩
  | stop e h'=>obtain ⟨a,b,c⟩:=h;exact ⟨a,by omega,by omega⟩
theorem step_hp {l : List Cls} {input : List Int} {fuel : Nat} {h : Hp} (H : HpOk l input fuel h) (hs : h.steps < fuel) : HpOk l input fuel { h with steps:=h.steps + 1 } :=
  ⟨H.many,H.obs,H.out,by have:=H.outs;simp only;omega,H.used,by simp only;omega⟩
theorem allOf_kind {l : List Cls} {h : Hp} : ∀ (args : List Vl) (ts : List Ty),allOf l h args ts = true → ∀ i (hi : i < args.length),i < ts.length → args[i].kind = (ts.getD i ⟨0,0⟩).kind:=by
  intro args
  induction args with
  | nil=>intro ts _ i hi;simp at hi
  | cons v vs ih =>
    intro ts ha i hi hts
    cases ts with
    | nil=>simp at hts
    | cons t ts =>
      simp only [allOf,Bool.and_eq_true] at ha
      cases i with
      | zero =>
        have:=ha.1
        simp only [ofT,Bool.and_eq_true,decide_eq_true_eq] at this
        simpa using this.1
      | succ i=>simpa using ih ts ha.2 i (by simpa using hi) (by simpa using hts)
theorem meAt_mem {f : Fi} {k : Nat} (h : k < f.methods.length) : meAt f k ∈ f.methods:=by
  unfold meAt
  rw [List.getD_eq_getElem?_getD,List.getElem?_eq_getElem h]
  exact List.getElem_mem h
section
variable {Fr : Type} {M : Mach Fr} {FrOk : Me → Nat → Fr → Prop} {f : Fi} {input : List Int} {fuel : Nat}
theorem after_go (K : MachOk M FrOk f input fuel) {m : Me} (hm : m ∈ f.methods) {fr fr' : Fr} {o : Nat} {h : Hp} (ho : o < h.objs.length) (H : HpOk f.classes input fuel h) (hf : FrOk m h.objs.length fr) (ha : after M f m fr o h = .go fr') : FrOk m h.objs.length fr':=by
  unfold after at ha
  split at ha
  · cases ha
  · split at ha
    · cases ha
    · rename_i hc
      injection ha with ha
      subst ha
      exact K.caught m hm _ o _ _ _ ho H.many hf hc
theorem loop_ok (K : MachOk M FrOk f input fuel) : ∀ (g d : Nat) (m : Me) (fr : Fr) (h : Hp),m ∈ f.methods → HpOk f.classes input fuel h → FrOk m h.objs.length fr → CallOk f input fuel m h (loop M f input fuel g d m fr h):=by
  intro g
  induction g with
  | zero=>intro d m fr h hm H hf;exact ⟨H,Nat.le_refl _,Nat.le_refl _⟩
  | succ g ih =>
    intro d m fr h hm H hf
    rw [loop]
    by_cases hs : fuel ≤ h.steps
    · rw [if_pos hs];exact ⟨H,Nat.le_refl _,Nat.le_refl _⟩
    · rw [if_neg hs]
      have H1:=step_hp H (by omega)
      cases hi : m.code[M.at_ fr]? with
      | none=>exact ⟨H1,Nat.le_refl _,Nat.le_succ _⟩
      | some i =>
        have hst:=K.step m hm i (List.mem_of_getElem? hi) fr _ H1 (by have:=H.outs;simp only;omega) hf
        simp only
        cases hc : M.step f input m i fr { h with steps:=h.steps + 1 } with
        | stop e h' =>
          rw [hc] at hst
          obtain ⟨a,b,c⟩:=hst
          simp only at b c
          exact ⟨a,b,by omega⟩
        | back v h' =>
          rw [hc] at hst
          obtain ⟨⟨a,b,c⟩,e⟩:=hst
          simp only at b c
          exact ⟨⟨a,b,by omega⟩,e⟩
        | go fr' h' =>
          rw [hc] at hst
          obtain ⟨⟨a,b,c⟩,e⟩:=hst
          simp only at b c
          exact (ih d m fr' h' hm a e).from b (by omega)
        | thrown o h' =>
          rw [hc] at hst
          obtain ⟨⟨a,b,c⟩,e⟩:=hst
          simp only at b c
          simp only
          cases hn : after M f m fr o h' with
          | go fr'=>exact (ih d m fr' h' hm a (after_go K hm e a (K.mono _ _ _ _ b hf) hn)).from b (by omega)
          | thrown=>exact ⟨⟨a,b,by omega⟩,e⟩
          | stuck=>exact ⟨a,b,by omega⟩
        | call k args fr' h' =>
          rw [hc] at hst
          obtain ⟨⟨a,b,c⟩,e,hv,hl,hk⟩:=hst
          simp only at b c
          simp only
          cases hall : allOf f.classes h' args (meAt f k).params
          · rw [if_pos rfl];exact ⟨a,b,by omega⟩
          · rw [if_neg (by simp)]
            by_cases hd : 20 ≤ d
            · rw [if_pos hd];exact ⟨a,b,by omega⟩
            · rw [if_neg hd]
              have hin:=ih (d + 1) (meAt f k) (M.enter (meAt f k) args) h' (meAt_mem hk) a (K.enter _ (meAt_mem hk) _ args hv hl (fun i hi=>allOf_kind args _ hall i hi (by omega)))
              cases hr : loop M f input fuel g (d + 1) (meAt f k) (M.enter (meAt f k) args) h' with
              | stop e' h2=>rw [hr] at hin;obtain ⟨p,q,r⟩:=hin;exact ⟨p,by omega,by omega⟩
              | ok v h2 =>
                rw [hr] at hin
                obtain ⟨⟨p,q,r⟩,s⟩:=hin
                simp only
                cases hre : M.resume m (meAt f k) fr' v with
                | none=>exact ⟨p,by omega,by omega⟩
                | some fr2=>exact (ih d m fr2 h2 hm p (K.resume m hm _ _ _ _ _ (K.mono _ _ _ _ q e) s hre)).from (by omega) (by omega)
              | thrown o h2 =>
                rw [hr] at hin
                obtain ⟨⟨p,q,r⟩,s⟩:=hin
                simp only
                cases hn : after M f m fr' o h2 with
                | go fr2=>exact (ih d m fr2 h2 hm p (after_go K hm s p (K.mono _ _ _ _ q e) hn)).from (by omega) (by omega)
                | thrown=>exact ⟨⟨p,by omega,by omega⟩,s⟩
                | stuck=>exact ⟨p,by omega,by omega⟩
theorem call_ok (K : MachOk M FrOk f input fuel) (g d : Nat) (m : Me) (args : List Vl) (h : Hp) (hm : m ∈ f.methods) (H : HpOk f.classes input fuel h) (hv : ∀ v ∈ args,VtOk h.objs.length v) (hl : args.length = m.params.length) : CallOk f input fuel m h (call M f input fuel g d m args h):=by
  unfold call
  cases hall : allOf f.classes h args m.params
  · rw [if_pos rfl];exact ⟨H,Nat.le_refl _,Nat.le_refl _⟩
  · rw [if_neg (by simp)]
    split
    · exact ⟨H,Nat.le_refl _,Nat.le_refl _⟩
    · exact loop_ok K g (d + 1) m _ h hm H (K.enter m hm _ args hv hl (fun i hi=>allOf_kind args _ hall i hi (by omega)))
end
theorem rng_iff {n lo hi : Int} : Form.rng n lo hi = true ↔ lo ≤ n ∧ n < hi:=by simp [Form.rng]
structure InS (f : Fi) (m : Me) (i : Ins) : Prop where
  op : 1 ≤ i.op ∧ i.op ≤ 25
  n1 : i.op = 1 → wrap32 i.n = i.n
  slot : i.op = 4 ∨ i.op = 5 → (1 ≤ i.b ∧ i.b ≤ 3) ∧ 0 ≤ i.a ∧ i.a < m.locals + 1 - Form.wide i.b
  ops : i.op = 6 ∨ i.op = 7 → 1 ≤ i.a ∧ i.a < 9
  jump : i.op = 11 ∨ i.op = 12 ∨ i.op = 13 → 0 ≤ i.a ∧ i.a < m.code.length
  cls : i.op = 14 ∨ i.op = 15 ∨ i.op = 16 ∨ i.op = 17 ∨ i.op = 18 → 0 ≤ i.a ∧ i.a < f.classes.length
  fld : i.op = 15 ∨ i.op = 16 → 0 ≤ i.b ∧ i.b < Form.nf f.classes i.a
  meth : i.op = 19 → 0 ≤ i.a ∧ i.a < f.methods.length
  out : i.op = 24 → 1 ≤ i.a ∧ i.a < 3
theorem inS_of {f : Fi} {m : Me} {i : Ins} (h : Form.sins f.classes f.methods.length m.code.length m.locals i = true) : InS f m i:=by
  simp only [Form.sins,Bool.and_eq_true] at h
  obtain ⟨⟨⟨⟨ha,hb⟩,hn⟩,_⟩,_⟩:=h
  have hop : 1 ≤ i.op ∧ i.op ≤ 25:=by
    unfold Form.sa at ha
    repeat' split at ha
    all_goals first | omega | simp at ha
  refine ⟨hop,fun e=>?_,fun e=>⟨?_,?_⟩,fun e=>?_,fun e=>?_,fun e=>?_,fun e=>?_,fun e=>?_,fun e=>?_⟩
  · rw [Form.sn,if_pos e] at hn;simpa using hn
  · rw [Form.sb,if_pos e] at hb;have:=rng_iff.1 hb;omega
  · rw [Form.sa,if_pos e] at ha;have:=rng_iff.1 ha;omega
  · rw [Form.sa,if_neg (by omega),if_pos e] at ha;exact rng_iff.1 ha
  · rw [Form.sa,if_neg (by omega),if_neg (by omega),if_pos e] at ha;exact rng_iff.1 ha
  · rw [Form.sa,if_neg (by omega),if_neg (by omega),if_neg (by omega),if_pos e] at ha;exact rng_iff.1 ha
  · rw [Form.sb,if_neg (by omega),if_neg (by omega),if_pos e,Bool.and_eq_true] at hb;exact rng_iff.1 hb.2
  · rw [Form.sa,if_neg (by omega),if_neg (by omega),if_neg (by omega),if_neg (by omega),if_pos e] at ha;exact rng_iff.1 ha
  · rw [Form.sa,if_neg (by omega),if_neg (by omega),if_neg (by omega),if_neg (by omega),if_neg (by omega),if_pos e] at ha;exact rng_iff.1 ha
structure MeS (f : Fi) (m : Me) : Prop where
  ins : ∀ i ∈ m.code,InS f m i
  stack : 0 ≤ m.stack ∧ m.stack < 31
  locals : (Form.slots m.params : Int) ≤ m.locals ∧ m.locals < 61
  params : m.params.length ≤ 4 ∧ ∀ t ∈ m.params,Hier.ty f.classes.length t = true
  ret : Form.ret f.classes.length m.ret = true
  code : 1 ≤ m.code.length ∧ m.code.length ≤ 400
  hds : m.handlers.length ≤ 8 ∧ ∀ x ∈ m.handlers,Form.hd f.classes.length m.code.length x = true
structure FiS (f : Fi) : Prop where
  may : Hier.may f.classes = true
  many : 1 ≤ f.methods.length ∧ f.methods.length ≤ 8
  mes : ∀ m ∈ f.methods,MeS f m
theorem head_iff {nc : Int} {m : Me} {most : Int} (h : Form.head nc m most = true) : (∀ t ∈ m.params,Hier.ty nc t = true) ∧ (∀ x ∈ m.handlers,Form.hd nc m.code.length x = true) ∧ m.params.length ≤ 4 ∧ Form.ret nc m.ret = true ∧ (1 ≤ (m.code.length : Int) ∧ (m.code.length : Int) < most + 1) ∧ m.handlers.length ≤ 8:=by
  simp only [Form.head,Bool.and_eq_true,decide_eq_true_eq,List.all_eq_true,rng_iff] at h
  obtain ⟨⟨⟨⟨⟨h1,h2⟩,h3⟩,h4⟩,h5⟩,h6⟩:=h
  exact ⟨h1,h2,h3,h4,h5,h6⟩
theorem fiS_of {f : Fi} (h : Form.smay f = true) : FiS f:=by
  simp only [Form.smay,Bool.and_eq_true,rng_iff,List.all_eq_true] at h
  obtain ⟨⟨h1,h2⟩,h3⟩:=h
  refine ⟨h1,by omega,fun m hm=>?_⟩
  have:=h3 m hm
  simp only [Form.sme,Bool.and_eq_true,rng_iff,List.all_eq_true,decide_eq_true_eq] at this
  obtain ⟨⟨⟨⟨h4,_⟩,h5⟩,h6⟩,h7⟩:=this
  obtain ⟨p1,p2,p3,p4,p5,p6⟩:=head_iff h4
  exact ⟨fun i hi=>inS_of (h7 i hi),h5,⟨h6.1,h6.2⟩,⟨p3,p1⟩,p4,by omega,p6,p2⟩
structure SfOk (m : Me) (n : Nat) (fr : Sf) : Prop where
  loc : SlotsOk n fr.loc
  len : fr.loc.length = m.locals.toNat
  stk : StkOk n fr.stk
theorem SfOk.mono {m : Me} {n n' : Nat} {fr : Sf} (h : SfOk m n fr) (hn : n ≤ n') : SfOk m n' fr:=⟨h.loc.mono hn,h.len,h.stk.mono hn⟩
theorem StkOk.nil (n : Nat) : StkOk n []:=fun v hv=>by cases hv
theorem StkOk.snoc {n : Nat} {st : List Vl} {v : Vl} (h : StkOk n st) (hv : VtOk n v) : StkOk n (st ++ [v]):=fun x hx=>by
  rcases List.mem_append.1 hx with hx | hx
  · exact h x hx
  · have : x = v:=by simpa using hx
    subst this;exact hv
theorem StkOk.dropLast {n : Nat} {st : List Vl} (h : StkOk n st) : StkOk n st.dropLast:=fun x hx=>h x (List.dropLast_subset st hx)
theorem StkOk.top {n : Nat} {st : List Vl} (h : StkOk n st) (hne : st ≠ []) : VtOk n (Run.top st):=by
  unfold Run.top
  rw [List.getLast?_eq_some_getLast hne]
  exact h _ (List.getLast_mem hne)
section
variable {f : Fi} {input : List Int} {fuel : Nat} {m : Me} {i : Ins} {fr : Sf} {h0 h : Hp}
theorem push_ok (F : From f.classes input fuel h0 h) (hf : SfOk m h0.objs.length fr) {st : List Vl} (hs : StkOk h.objs.length st) {v : Vl} (hv : VtOk h.objs.length v) : ActOk SfOk f input fuel m h0 (push m fr st v h):=by
  unfold push
  split
  · exact ⟨F,hf.loc.mono F.2.1,hf.len,hs.snoc hv⟩
  · exact F
theorem pop1_ok (F : From f.classes input fuel h0 h) (hf : SfOk m h.objs.length fr) {k : Vl → List Vl → Act Sf} (hk : ∀ v st,VtOk h.objs.length v → StkOk h.objs.length st → ActOk SfOk f input fuel m h0 (k v st)) : ActOk SfOk f input fuel m h0 (pop1 fr h k):=by
  unfold pop1
  split
  · exact F
  · rename_i hne
    exact hk _ _ (hf.stk.top hne) hf.stk.dropLast
theorem pop2_ok (F : From f.classes input fuel h0 h) (hf : SfOk m h.objs.length fr) {k : Vl → Vl → List Vl → Act Sf} (hk : ∀ a b st,VtOk h.objs.length a → VtOk h.objs.length b → StkOk h.objs.length st → ActOk SfOk f input fuel m h0 (k a b st)) : ActOk SfOk f input fuel m h0 (pop2 fr h k):=by
  unfold pop2
  refine pop1_ok F hf (fun b st hb hs=>?_)
  split
  · exact F
  · rename_i hne
    exact hk _ _ _ (hs.top hne) hb hs.dropLast
theorem kindly_ok (F : From f.classes input fuel h0 h) {v : Vl} {kind : Int} {k : Act Sf} (hk : v.kind = kind → ActOk SfOk f input fuel m h0 k) : ActOk SfOk f input fuel m h0 (kindly v kind h k):=by
  unfold kindly
  split
  · exact hk ‹_›
  · exact F
theorem int_ok' (n : Nat) {x : Int} (h : Ok x) (k : Int) (hk : k = 1 ∨ k = 2) : VtOk n ⟨k,x⟩:=⟨⟨h,by simp only;omega,by simp only;omega,by simp only;omega⟩,by simp only;omega,by simp only;omega⟩
theorem null_ok (n : Nat) : VtOk n ⟨3,-1⟩:=⟨⟨by simp [Ok],by simp,by simp,by simp;omega⟩,by simp,by simp⟩
theorem cmp_okr (a b : Int) : Ok (Num.cmp a b):=by unfold Num.cmp Ok;split <;> (try split) <;> omega
set_option maxHeartbeats 1000000 in
theorem sstep_ok (hm : Hier.may f.classes = true) (M : MeS f m) (hi : InS f m i) (hio : Ok i.n) (hin : ∀ x ∈ input,Ok x) (H : HpOk f.classes input fuel h) (ho : h.out.length < h.steps) (hf : SfOk m h.objs.length fr) : ActOk SfOk f input fuel m h (sstep f input m i fr h):=by
  have F:=From.refl H
  have go : ∀ (st : List Vl) (at_ : Nat) (h' : Hp),From f.classes input fuel h h' → StkOk h'.objs.length st → ActOk SfOk f input fuel m h (.go (on fr st at_) h'):=fun st at_ h' F' hs=>⟨F',hf.loc.mono F'.2.1,hf.len,hs⟩
  unfold sstep
  by_cases q1 : i.op = 1
  · rw [if_pos q1];exact push_ok F hf hf.stk (int_ok' _ hio 1 (.inl rfl))
  rw [if_neg q1]
  by_cases q2 : i.op = 2
  · rw [if_pos q2];exact push_ok F hf hf.stk (int_ok' _ hio 2 (.inr rfl))
  rw [if_neg q2]
  by_cases q3 : i.op = 3
  · rw [if_pos q3];exact push_ok F hf hf.stk (null_ok _)
  rw [if_neg q3]
  by_cases q4 : i.op = 4
  · rw [if_pos q4]
    obtain ⟨hb,ha⟩:=hi.slot (.inl q4)
    exact kindly_ok F (fun e=>push_ok F hf hf.stk ⟨hf.loc.vals _,by omega,by omega⟩)
  rw [if_neg q4]
  by_cases q5 : i.op = 5
  · rw [if_pos q5]
    obtain ⟨hb,ha0,ha1⟩:=hi.slot (.inr q5)
    refine pop1_ok F hf (fun v st hv hs=>kindly_ok F (fun e=>⟨F,store_ok hf.loc hv ?_ ?_,by rw [store_len];exact hf.len,hs⟩))
    · rw [hf.len];unfold Form.wide at ha1;split at ha1 <;> omega
    · intro h2;rw [hf.len];unfold Form.wide at ha1;rw [if_pos (by omega)] at ha1;omega
  rw [if_neg q5]
  by_cases q6 : i.op = 6
  · rw [if_pos q6]
    exact pop2_ok F hf (fun a b st ha hb hs=>act_ok (reckon_ok hm H ha.1.1 hb.1.1 (.inl rfl)) (fun v h' F' hv=>push_ok F' hf (by rw [hv.1];exact hs) (by rw [hv.1];exact hv.2.1)))
  rw [if_neg q6]
  by_cases q7 : i.op = 7
  · rw [if_pos q7]
    exact pop2_ok F hf (fun a b st ha hb hs=>act_ok (reckon_ok hm H ha.1.1 hb.1.1 (.inr rfl)) (fun v h' F' hv=>push_ok F' hf (by rw [hv.1];exact hs) (by rw [hv.1];exact hv.2.1)))
  rw [if_neg q7]
  by_cases q8 : i.op = 8
  · rw [if_pos q8];exact pop1_ok F hf (fun v st hv hs=>kindly_ok F (fun e=>push_ok F hf hs (int_ok' _ hv.1.1 2 (.inr rfl))))
  rw [if_neg q8]
  by_cases q9 : i.op = 9
  · rw [if_pos q9];exact pop1_ok F hf (fun v st hv hs=>kindly_ok F (fun e=>push_ok F hf hs (int_ok' _ (wrap32_ok _) 1 (.inl rfl))))
  rw [if_neg q9]
  by_cases q10 : i.op = 10
  · rw [if_pos q10];exact pop2_ok F hf (fun a b st ha hb hs=>kindly_ok F (fun e=>kindly_ok F (fun e=>push_ok F hf hs (int_ok' _ (cmp_okr _ _) 1 (.inl rfl)))))
  rw [if_neg q10]
  by_cases q11 : i.op = 11
  · rw [if_pos q11];exact go _ _ _ F hf.stk
  rw [if_neg q11]
  by_cases q12 : i.op = 12
  · rw [if_pos q12];exact pop1_ok F hf (fun v st hv hs=>kindly_ok F (fun e=>go _ _ _ F hs))
  rw [if_neg q12]
  by_cases q13 : i.op = 13
  · rw [if_pos q13];exact pop1_ok F hf (fun v st hv hs=>kindly_ok F (fun e=>go _ _ _ F hs))
  rw [if_neg q13]
  by_cases q14 : i.op = 14
  · rw [if_pos q14];exact act_ok (new_ok hm H (hi.cls (by omega))) (fun v h' F' hv=>push_ok F' hf (hf.stk.mono F'.2.1) hv.1)
  rw [if_neg q14]
  by_cases q15 : i.op = 15
  · rw [if_pos q15]
    exact pop1_ok F hf (fun v st hv hs=>act_ok (get_ok hm H hv.1 (hi.cls (by omega)) (hi.fld (by omega))) (fun x h' F' hx=>push_ok F' hf (by rw [hx.1];exact hs) (by rw [hx.1];exact hx.2.1)))
  rw [if_neg q15]
  by_cases q16 : i.op = 16
  · rw [if_pos q16]
    exact pop2_ok F hf (fun r v st hr hv hs=>kindly_ok F (fun e=>act_ok (put_ok hm H hr.1 hv) (fun _ h' F' _=>go _ _ _ F' (hs.mono F'.2.1))))
  rw [if_neg q16]
  by_cases q17 : i.op = 17
  · rw [if_pos q17]
    exact pop1_ok F hf (fun v st hv hs=>act_ok (cast_ok hm H) (fun _ h' F' _=>push_ok F' hf (hs.mono F'.2.1) (hv.mono F'.2.1)))
  rw [if_neg q17]
  by_cases q18 : i.op = 18
  · rw [if_pos q18]
    exact pop1_ok F hf (fun v st hv hs=>act_ok (isV_ok H) (fun x h' F' hx=>push_ok F' hf (hs.mono F'.2.1) (by rw [hx.1];exact hx.2.1)))
  rw [if_neg q18]
  by_cases q19 : i.op = 19
  · rw [if_pos q19]
    unfold s19
    split
    · exact F
    · rename_i hn
      have:=hi.meth q19
      exact ⟨F,⟨hf.loc,hf.len,fun x hx=>hf.stk x (List.mem_of_mem_take hx)⟩,fun x hx=>hf.stk x (List.mem_of_mem_drop hx),by simp;omega,by omega⟩
  rw [if_neg q19]
  by_cases q20 : i.op = 20
  · rw [if_pos q20]
    unfold s20
    by_cases hr : m.ret.kind = 0
    · rw [if_pos hr];exact ⟨F,by rw [RetOk,if_pos hr]⟩
    · rw [if_neg hr]
      refine pop1_ok F hf (fun v st hv hs=>?_)
      split
      · exact ⟨F,by rw [RetOk,if_neg hr];exact hv⟩
      · exact F
  rw [if_neg q20]
  by_cases q21 : i.op = 21
  · rw [if_pos q21]
    exact pop1_ok F hf (fun v st hv hs=>act_ok (R:=fun _ _=>True) (throw_ok hm H hv.1) (fun _ h' F' _=>F'))
  rw [if_neg q21]
  by_cases q22 : i.op = 22
  · rw [if_pos q22];exact pop1_ok F hf (fun v st hv hs=>go _ _ _ F hs)
  rw [if_neg q22]
  by_cases q23 : i.op = 23
  · rw [if_pos q23]
    refine pop1_ok F hf (fun v st hv hs=>?_)
    split
    · refine go _ _ _ F ?_
      have:=(hs.snoc hv).snoc hv
      simpa using this
    · exact F
  rw [if_neg q23]
  by_cases q24 : i.op = 24
  · rw [if_pos q24]
    refine pop1_ok F hf (fun v st hv hs=>?_)
    unfold emit
    split
    · exact F
    · refine go _ _ { h with out:=h.out ++ [v.n] } ⟨⟨H.many,H.obs,fun x hx=>?_,?_,H.used,H.steps⟩,Nat.le_refl _,rfl⟩ hs
      · rcases List.mem_append.1 hx with hx | hx
        · exact H.out x hx
        · have : x = v.n:=by simpa using hx
          rw [this];exact hv.1.1
      · simp only [List.length_append,List.length_cons,List.length_nil];omega
  rw [if_neg q24]
  by_cases q25 : i.op = 25
  · rw [if_pos q25]
    unfold s25 takeIn
    split
    · exact F
    · rename_i hu
      refine push_ok (h:={ h with used:=h.used + 1 }) ⟨⟨H.many,H.obs,H.out,H.outs,by simp only;omega,H.steps⟩,Nat.le_refl _,rfl⟩ hf hf.stk (int_ok' _ ?_ 2 (.inr rfl))
      rw [List.getD_eq_getElem?_getD,List.getElem?_eq_getElem (by omega)]
      exact hin _ (List.getElem_mem _)
  rw [if_neg q25]
  exact F
end
theorem width_le (v : Vl) : 1 ≤ width v ∧ width v ≤ 2:=by unfold width;split <;> omega
theorem stores_ok {n : Nat} : ∀ (args : List Vl) (l : List Vl) (a : Nat),SlotsOk n l → (∀ v ∈ args,VtOk n v) → a + size args ≤ l.length → SlotsOk n (stores l a args) ∧ (stores l a args).length = l.length:=by
  intro args
  induction args with
  | nil=>intro l a h _ _;exact ⟨h,rfl⟩
  | cons v vs ih =>
    intro l a h hv hs
    simp only [size] at hs
    have hw:=width_le v
    have h1:=store_ok h (a:=a) (hv v (by simp)) (by omega) (fun h2=>by unfold width at hs;rw [if_pos h2] at hs;omega)
    have h2:=ih (store l a v) (a + width v) h1 (fun x hx=>hv x (by simp [hx])) (by rw [store_len];omega)
    exact ⟨h2.1,h2.2.trans (store_len _ _ _)⟩
theorem size_slots : ∀ (args : List Vl) (ts : List Ty),args.length = ts.length → (∀ i (h : i < args.length),args[i].kind = (ts.getD i ⟨0,0⟩).kind) → size args = Form.slots ts:=by
  intro args
  induction args with
  | nil=>intro ts h _;rw [List.eq_nil_of_length_eq_zero (l:=ts) (by simpa using h.symm)];rfl
  | cons v vs ih =>
    intro ts h hk
    cases ts with
    | nil=>simp at h
    | cons t ts =>
      have h0:=hk 0 (by simp)
      simp only [List.getElem_cons_zero,List.getD_cons_zero] at h0
      rw [size,Form.slots,ih ts (by simpa using h) (fun i hi=>by have:=hk (i + 1) (by simp;omega);simp only [List.getElem_cons_succ,List.getD_cons_succ] at this;exact this),width,h0]
theorem sm_ok {f : Fi} {input : List Int} {fuel : Nat} (S : FiS f) (hn : ∀ m ∈ f.methods,∀ i ∈ m.code,Ok i.n) (hin : ∀ x ∈ input,Ok x) : MachOk SM SfOk f input fuel:=by
  refine ⟨S.may,fun m hm i hi fr h H ho hf=>sstep_ok S.may (S.mes m hm) ((S.mes m hm).ins i hi) (hn m hm i hi) hin H ho hf,fun m hm n args hv hl hk=>?_,fun m hm callee n v fr fr' hf hv hr=>?_,fun m hm n o a fr fr' ho hn hf hc=>?_,fun m n n' fr hn hf=>hf.mono hn⟩
  · have M:=S.mes m hm
    have hsz:=size_slots args m.params hl hk
    have:=stores_ok args (List.replicate m.locals.toNat Vl.nil) 0 (fresh_ok n _) hv (by simp;have:=M.locals.1;omega)
    exact ⟨this.1,by rw [show (SM.enter m args).loc.length = _ from this.2];simp,StkOk.nil n⟩
  · change sresume m callee fr v = some fr' at hr
    unfold sresume at hr
    split at hr
    · injection hr with hr;subst hr;exact ⟨hf.loc,hf.len,hf.stk⟩
    · rename_i h0
      split at hr
      · injection hr with hr;subst hr
        rw [RetOk,if_neg h0] at hv
        exact ⟨hf.loc,hf.len,hf.stk.snoc hv⟩
      · cases hr
  · change scaught m fr a o = some fr' at hc
    unfold scaught at hc
    split at hc
    · injection hc with hc;subst hc
      refine ⟨hf.loc,hf.len,fun x hx=>?_⟩
      have : x = ⟨3,o⟩:=by simpa [on] using hx
      subst this
      exact ⟨⟨by simp [Ok];omega,by simp,by simp,by simp;omega⟩,by simp,by simp⟩
    · cases hc
structure MeR (f : Fi) (m : Me) : Prop where
  ins : ∀ i ∈ m.code,Rform.ins f m i = true
  regs : 1 ≤ m.regs ∧ (Form.slots m.params : Int) ≤ m.regs ∧ m.regs < 91
  params : m.params.length ≤ 4 ∧ ∀ t ∈ m.params,Hier.ty f.classes.length t = true
  ret : Form.ret f.classes.length m.ret = true
  code : 1 ≤ m.code.length ∧ m.code.length ≤ 2400
  hds : m.handlers.length ≤ 8 ∧ ∀ x ∈ m.handlers,Form.hd f.classes.length m.code.length x = true
structure FiR (f : Fi) : Prop where
  may : Hier.may f.classes = true
  many : 1 ≤ f.methods.length ∧ f.methods.length ≤ 8
  mes : ∀ m ∈ f.methods,MeR f m
theorem fiR_of {f : Fi} (h : Rform.rmay f = true) : FiR f:=by
  simp only [Rform.rmay,Bool.and_eq_true,rng_iff,List.all_eq_true] at h
  obtain ⟨⟨h1,h2⟩,h3⟩:=h
  refine ⟨h1,by omega,fun m hm=>?_⟩
  have:=h3 m hm
  simp only [Rform.rme,Bool.and_eq_true,rng_iff,List.all_eq_true,decide_eq_true_eq] at this
  obtain ⟨⟨⟨⟨h4,_⟩,_⟩,h6⟩,h7⟩:=this
  obtain ⟨p1,p2,p3,p4,p5,p6⟩:=head_iff h4
  exact ⟨h7,by omega,⟨p3,p1⟩,p4,by omega,p6,p2⟩
structure RfOk (m : Me) (n : Nat) (fr : Rf) : Prop where
  regs : SlotsOk n fr.regs
  len : fr.regs.length = m.regs.toNat
  given : VlOk n fr.given
  got : VlOk n fr.got
theorem RfOk.mono {m : Me} {n n' : Nat} {fr : Rf} (h : RfOk m n fr) (hn : n ≤ n') : RfOk m n' fr:=⟨h.regs.mono hn,h.len,h.given.mono hn,h.got.mono hn⟩
theorem reg_iff {regs a kind : Int} (h : Rform.reg regs a kind = true) : 0 ≤ a ∧ a.toNat < regs.toNat ∧ (kind = 2 → a.toNat + 1 < regs.toNat):=by
  have:=rng_iff.1 h
  unfold Form.wide at this
  refine ⟨this.1,?_,fun e=>?_⟩
  · split at this <;> omega
  · rw [if_pos e] at this;omega
section
variable {f : Fi} {input : List Int} {fuel : Nat} {m : Me} {i : Ins} {fr : Rf} {h0 h : Hp}
theorem rset_ok (F : From f.classes input fuel h0 h) (hf : RfOk m h0.objs.length fr) {a kind : Int} (ha : Rform.reg m.regs a kind = true) {v : Vl} (hv : VtOk h.objs.length v) (hk : v.kind = 2 → kind = 2) : ActOk RfOk f input fuel m h0 (rset fr a v h):=by
  have hf:=hf.mono F.2.1
  obtain ⟨a0,a1,a2⟩:=reg_iff ha
  exact ⟨F,store_ok hf.regs hv (by rw [hf.len];exact a1) (fun e=>by rw [hf.len];exact a2 (hk e)),by rw [store_len];exact hf.len,nil_ok _,nil_ok _⟩
theorem rgo_ok (F : From f.classes input fuel h0 h) (hf : RfOk m h0.objs.length fr) (a : Nat) : ActOk RfOk f input fuel m h0 (rgo fr a h):=by
  have hf:=hf.mono F.2.1
  exact ⟨F,hf.regs,hf.len,nil_ok _,nil_ok _⟩
theorem rkind_ok (F : From f.classes input fuel h0 h) {v : Vl} {kind : Int} {k : Act Rf} (hk : v.kind = kind → ActOk RfOk f input fuel m h0 k) : ActOk RfOk f input fuel m h0 (rkind v kind h k):=by
  unfold rkind
  split
  · exact hk ‹_›
  · exact F
theorem rd_ok {n : Nat} (hf : RfOk m n fr) (a : Int) : VlOk n (rd fr a):=hf.regs.vals _
theorem rargs_ok {n : Nat} (hf : RfOk m n fr) : ∀ (ts : List Ty) (xs : List Int) (args : List Vl),(∀ t ∈ ts,1 ≤ t.kind ∧ t.kind ≤ 3) → rargs fr xs ts = some args → (∀ v ∈ args,VtOk n v) ∧ args.length = ts.length:=by
  intro ts
  induction ts with
  | nil=>intro xs args _ h;cases xs <;> (simp only [rargs] at h;injection h with h;subst h;exact ⟨fun v hv=>absurd hv (by simp),rfl⟩)
  | cons t ts ih =>
    intro xs args hk h
    cases xs with
    | nil=>simp [rargs] at h
    | cons a xs =>
      simp only [rargs] at h
      split at h
      · rename_i he
        cases hr : rargs fr xs ts with
        | none=>rw [hr] at h;cases h
        | some l =>
          rw [hr] at h
          injection h with h;subst h
          obtain ⟨h1,h2⟩:=ih xs l (fun x hx=>hk x (by simp [hx])) hr
          have:=hk t (by simp)
          refine ⟨fun v hv=>?_,by simp [h2]⟩
          rcases List.mem_cons.1 hv with hv | hv
          · subst hv;exact ⟨rd_ok hf a,by omega,by omega⟩
          · exact h1 v hv
      · cases h
theorem ty_kind {n : Int} {t : Ty} (h : Hier.ty n t = true) : 1 ≤ t.kind ∧ t.kind ≤ 3:=by
  unfold Hier.ty at h
  split at h
  · omega
  · split at h
    · omega
    · cases h
set_option maxHeartbeats 2000000 in
theorem rstep_ok (S : FiR f) (M : MeR f m) (hi : Rform.ins f m i = true) (hio : Ok i.n) (hin : ∀ x ∈ input,Ok x) (H : HpOk f.classes input fuel h) (ho : h.out.length < h.steps) (hf : RfOk m h.objs.length fr) : ActOk RfOk f input fuel m h (rstep f input m i fr h):=by
  have hm:=S.may
  have F:=From.refl H
  simp only [Rform.ins,Bool.and_eq_true] at hi
  obtain ⟨⟨_,hb⟩,_⟩:=hi
  unfold rstep
  by_cases q : i.op = 1
  · rw [if_pos q];simp [Rform.body,q] at hb;exact rset_ok F hf hb.1.1 (int_ok' _ hio 1 (.inl rfl)) (by simp)
  rw [if_neg q];clear q
  by_cases q : i.op = 2
  · rw [if_pos q];simp [Rform.body,q] at hb;exact rset_ok F hf hb.1.1 (int_ok' _ hio 2 (.inr rfl)) (by simp)
  rw [if_neg q];clear q
  by_cases q : i.op = 3
  · rw [if_pos q];simp [Rform.body,q] at hb;exact rset_ok F hf hb.1.1 (null_ok _) (by simp)
  rw [if_neg q];clear q
  by_cases q : i.op = 4
  · rw [if_pos q];simp [Rform.body,q,rng_iff] at hb
    exact rkind_ok F (fun e=>rset_ok F hf hb.2.1 ⟨rd_ok hf _,by omega,by omega⟩ (by omega))
  rw [if_neg q];clear q
  by_cases q : i.op = 5
  · rw [if_pos q];simp [Rform.body,q] at hb
    exact act_ok (reckon_ok hm H (rd_ok hf _).1 (rd_ok hf _).1 (.inl rfl)) (fun v h' F' hv=>rset_ok (kind:=1) F' hf hb.1 (by rw [hv.1];exact hv.2.1) (fun e=>by have:=hv.2.2;omega))
  rw [if_neg q];clear q
  by_cases q : i.op = 6
  · rw [if_pos q];simp [Rform.body,q] at hb
    exact act_ok (reckon_ok hm H (rd_ok hf _).1 (rd_ok hf _).1 (.inr rfl)) (fun v h' F' hv=>rset_ok (kind:=2) F' hf hb.1 (by rw [hv.1];exact hv.2.1) (fun e=>rfl))
  rw [if_neg q];clear q
  by_cases q : i.op = 7
  · rw [if_pos q];simp [Rform.body,q] at hb
    exact rkind_ok F (fun e=>rset_ok F hf hb.1.1 (int_ok' _ (rd_ok hf _).1 2 (.inr rfl)) (fun _=>rfl))
  rw [if_neg q];clear q
  by_cases q : i.op = 8
  · rw [if_pos q];simp [Rform.body,q] at hb
    exact rkind_ok F (fun e=>rset_ok F hf hb.1.1 (int_ok' _ (wrap32_ok _) 1 (.inl rfl)) (by simp))
  rw [if_neg q];clear q
  by_cases q : i.op = 9
  · rw [if_pos q];simp [Rform.body,q] at hb
    exact rkind_ok F (fun e=>rkind_ok F (fun e=>rset_ok F hf hb.1 (int_ok' _ (cmp_okr _ _) 1 (.inl rfl)) (by simp)))
  rw [if_neg q];clear q
  by_cases q : i.op = 10
  · rw [if_pos q];exact rgo_ok F hf _
  rw [if_neg q];clear q
  by_cases q : i.op = 11
  · rw [if_pos q];exact rkind_ok F (fun e=>rgo_ok F hf _)
  rw [if_neg q];clear q
  by_cases q : i.op = 12
  · rw [if_pos q];exact rkind_ok F (fun e=>rgo_ok F hf _)
  rw [if_neg q];clear q
  by_cases q : i.op = 13
  · rw [if_pos q];simp [Rform.body,q,rng_iff] at hb
    exact act_ok (new_ok hm H (by omega)) (fun v h' F' hv=>rset_ok F' hf hb.1.1 hv.1 (by omega))
  rw [if_neg q];clear q
  by_cases q : i.op = 14
  · rw [if_pos q];simp [Rform.body,q,rng_iff] at hb
    refine rkind_ok F (fun e=>act_ok (get_ok hm H (rd_ok hf _) (c:=i.c) (k:=i.n) (by omega) (by have:=hb.1.1.2;unfold Form.nf at this;omega)) (fun v h' F' hv=>rset_ok F' hf hb.1.2 (by rw [hv.1];exact hv.2.1) (fun e=>?_)))
    rw [← e,hv.2.2];rfl
  rw [if_neg q];clear q
  by_cases q : i.op = 15
  · rw [if_pos q];simp [Rform.body,q,rng_iff] at hb
    have hc : 0 ≤ i.c ∧ i.c < f.classes.length:=by omega
    have hn : 0 ≤ i.n ∧ i.n < Form.nf f.classes i.c:=by omega
    have hfa:=may_fields hm (c:=i.c.toNat) (by omega)
    have hk : 1 ≤ (ftype f.classes i.c i.n).kind ∧ (ftype f.classes i.c i.n).kind ≤ 3:=by
      unfold ftype
      unfold Form.nf at hn
      rw [List.getD_eq_getElem?_getD,List.getElem?_eq_getElem (by omega)]
      exact ty_kind (List.all_eq_true.1 hfa _ (List.getElem_mem _))
    exact rkind_ok F (fun e=>rkind_ok F (fun e=>act_ok (put_ok hm H (rd_ok hf _) ⟨rd_ok hf _,by omega,by omega⟩) (fun _ h' F' _=>rgo_ok F' hf _)))
  rw [if_neg q];clear q
  by_cases q : i.op = 16
  · rw [if_pos q];exact rkind_ok F (fun e=>act_ok (cast_ok hm H) (fun _ h' F' _=>rgo_ok F' hf _))
  rw [if_neg q];clear q
  by_cases q : i.op = 17
  · rw [if_pos q];simp [Rform.body,q] at hb
    exact rkind_ok F (fun e=>act_ok (isV_ok H) (fun x h' F' hx=>rset_ok F' hf hb.1.1 (by rw [hx.1];exact hx.2.1) (fun e=>by have:=hx.2.2;omega)))
  rw [if_neg q];clear q
  by_cases q : i.op = 18
  · rw [if_pos q];simp [Rform.body,q,rng_iff] at hb
    have ha : i.a.toNat < f.methods.length:=by omega
    unfold r18
    split
    · exact F
    · rename_i args hr
      obtain ⟨h1,h2⟩:=rargs_ok hf _ _ _ (fun t ht=>ty_kind ((S.mes _ (meAt_mem ha)).params.2 t ht)) hr
      exact ⟨F,⟨hf.regs,hf.len,nil_ok _,nil_ok _⟩,h1,h2,ha⟩
  rw [if_neg q];clear q
  by_cases q : i.op = 19
  · rw [if_pos q];simp [Rform.body,q,rng_iff] at hb
    exact rkind_ok F (fun e=>rset_ok F hf hb.1.2 ⟨hf.given,by omega,by omega⟩ (by omega))
  rw [if_neg q];clear q
  by_cases q : i.op = 20
  · rw [if_pos q]
    unfold r20
    by_cases hr : m.ret.kind = 0
    · rw [if_pos hr];exact ⟨F,by rw [RetOk,if_pos hr]⟩
    · rw [if_neg hr]
      have hk : 1 ≤ m.ret.kind ∧ m.ret.kind ≤ 3:=by
        have:=M.ret
        unfold Form.ret at this
        rw [Bool.or_eq_true,decide_eq_true_eq] at this
        rcases this with h | h
        · omega
        · exact ty_kind h
      refine rkind_ok F (fun e=>?_)
      split
      · exact ⟨F,by rw [RetOk,if_neg hr];exact ⟨rd_ok hf _,by omega,by omega⟩⟩
      · exact F
  rw [if_neg q];clear q
  by_cases q : i.op = 21
  · rw [if_pos q];exact rkind_ok F (fun e=>act_ok (R:=fun _ _=>True) (throw_ok hm H (rd_ok hf _)) (fun _ h' F' _=>F'))
  rw [if_neg q];clear q
  by_cases q : i.op = 22
  · rw [if_pos q];simp [Rform.body,q] at hb
    exact rkind_ok F (fun e=>rset_ok F hf hb.1.1 ⟨hf.got,by omega,by omega⟩ (by omega))
  rw [if_neg q];clear q
  by_cases q : i.op = 23
  · rw [if_pos q]
    refine rkind_ok F (fun e=>?_)
    unfold emit
    split
    · exact F
    · refine rgo_ok (h:={ h with out:=h.out ++ [(rd fr i.a).n] }) ⟨⟨H.many,H.obs,fun x hx=>?_,?_,H.used,H.steps⟩,Nat.le_refl _,rfl⟩ hf _
      · rcases List.mem_append.1 hx with hx | hx
        · exact H.out x hx
        · have : x = (rd fr i.a).n:=by simpa using hx
          rw [this];exact (rd_ok hf _).1
      · simp only [List.length_append,List.length_cons,List.length_nil];omega
  rw [if_neg q];clear q
  by_cases q : i.op = 24
  · rw [if_pos q];simp [Rform.body,q] at hb
    unfold r24 takeIn
    split
    · exact F
    · rename_i hu
      refine rset_ok (h:={ h with used:=h.used + 1 }) ⟨⟨H.many,H.obs,H.out,H.outs,by simp only;omega,H.steps⟩,Nat.le_refl _,rfl⟩ hf hb.1.1 (int_ok' _ ?_ 2 (.inr rfl)) (fun _=>rfl)
      rw [List.getD_eq_getElem?_getD,List.getElem?_eq_getElem (by omega)]
      exact hin _ (List.getElem_mem _)
  rw [if_neg q];clear q
  exact F
end
theorem rm_ok {f : Fi} {input : List Int} {fuel : Nat} (S : FiR f) (hn : ∀ m ∈ f.methods,∀ i ∈ m.code,Ok i.n) (hin : ∀ x ∈ input,Ok x) : MachOk RM RfOk f input fuel:=by
  refine ⟨S.may,fun m hm i hi fr h H ho hf=>rstep_ok S (S.mes m hm) ((S.mes m hm).ins i hi) (hn m hm i hi) hin H ho hf,fun m hm n args hv hl hk=>?_,fun m hm callee n v fr fr' hf hv hr=>?_,fun m hm n o a fr fr' ho hn hf hc=>?_,fun m n n' fr hn hf=>hf.mono hn⟩
  · have M:=S.mes m hm
    have hsz:=size_slots args m.params hl hk
    have:=stores_ok args (List.replicate m.regs.toNat Vl.nil) 0 (fresh_ok n _) hv (by simp;have:=M.regs.2.1;omega)
    exact ⟨this.1,by rw [show (RM.enter m args).regs.length = _ from this.2];simp,nil_ok _,nil_ok _⟩
  · change rresume m callee fr v = some fr' at hr
    unfold rresume at hr
    injection hr with hr;subst hr
    refine ⟨hf.regs,hf.len,?_,nil_ok _⟩
    unfold RetOk at hv
    split at hv
    · subst hv;exact nil_ok _
    · exact hv.1
  · change rcaught m fr a o = some fr' at hc
    unfold rcaught at hc
    injection hc with hc;subst hc
    exact ⟨hf.regs,hf.len,nil_ok _,⟨by simp [Ok];omega,by simp,by simp,by simp;omega⟩⟩
end Run
end Go.Proofs.Ytncmhenfgbcihab
namespace Go.Proofs.Ytncmhenfgbcihab
open Go.RowKit
set_option linter.unusedSimpArgs false
set_option linter.unusedVariables false
namespace Hpw
open Num Rd D Run Mem
def int (n : Int) : Value:=.int .i64 n
def vcell (v : Vl) : List Value:=[.int .i64 v.kind,.int .i64 v.n]
def vval (v : Vl) : Value:=.agg #[.int .i64 v.kind,.int .i64 v.n]
def vcells (l : List Vl) : List Value:=l.flatMap vcell
def EVl (w : World) (_B b o : Nat) (v : Vl) : Prop:=w.cell? ⟨b,o,none⟩ = some (.int .i64 v.kind) ∧ w.cell? ⟨b,o + 1,none⟩ = some (.int .i64 v.n)
structure Ev where
  f : Fi
  input : List Int
  fuel : Nat
  hb : Nat
  B : Nat
  vc : Value
  vm : Value
  vi : Value
def nilOb : Ob:=⟨0,[]⟩
theorem vcells_len (l : List Vl) : (vcells l).length = l.length * 2:=by
  induction l with
  | nil=>rfl
  | cons v l ih=>simp only [vcells,List.flatMap_cons,List.length_append,List.length_cons] at ih ⊢;rw [ih];simp [vcell];omega
theorem vcells_get : ∀ (l : List Vl) (i : Nat),i < l.length → (vcells l)[i * 2]? = some (.int .i64 (l.getD i Vl.nil).kind) ∧ (vcells l)[i * 2 + 1]? = some (.int .i64 (l.getD i Vl.nil).n):=by
  intro l
  induction l with
  | nil=>intro i h;simp at h
  | cons v l ih =>
    intro i h
    cases i with
    | zero=>simp [vcells,vcell]
    | succ i =>
      have:=ih i (by simpa using h)
      rw [show (i + 1) * 2 + 1 = (i * 2 + 1) + 2 by omega,show (i + 1) * 2 = i * 2 + 2 by omega]
      simpa [vcells,vcell] using this
theorem vcells_append (l m : List Vl) : vcells (l ++ m) = vcells l ++ vcells m:=by simp [vcells]
theorem vcells_set : ∀ (l : List Vl) (i : Nat) (v : Vl),vcells (l.set i v) = ((vcells l).set (i * 2) (.int .i64 v.kind)).set (i * 2 + 1) (.int .i64 v.n):=by
  intro l
  induction l with
  | nil=>intro i v;simp [vcells]
  | cons u l ih =>
    intro i v
    cases i with
    | zero=>simp [vcells,vcell]
    | succ i =>
      have:=ih i v
      rw [show (i + 1) * 2 + 1 = (i * 2 + 1) + 2 by omega,show (i + 1) * 2 = i * 2 + 2 by omega]
      simpa [vcells,vcell] using this
end Hpw
end Go.Proofs.Ytncmhenfgbcihab
namespace Go.Proofs.Ytncmhenfgbcihab
open Go.RowKit
set_option linter.unusedSimpArgs false
set_option linter.unusedVariables false
namespace HierW
open Num Rd D
def Cs (w : World) (v : Value) (l : List Cls) : Prop:=Sl 2 ECls w w.heap.size v l
theorem Cs.next {w w' : World} {v : Value} {l : List Cls} (h : Cs w v l) (hb : Below w.heap.size w w') : Cs w' v l:=Sl.mono mCls h hb hb.size
theorem based {P : Program} {f : FuncId} {args : Array Value} {w0 w : World} {R : Ending → Prop} (hb : Below w0.heap.size w0 w) (h : Calls P f args w fun e w'=>R e ∧ Below w.heap.size w w') : Calls P f args w fun e w'=>R e ∧ Below w0.heap.size w0 w' :=
  h.mono fun e w' ⟨h1,h2⟩=>⟨h1,hb.trans (h2.mono hb.size)⟩
theorem ret_bool {a b : Bool} (h : a = b) : Ending.returned (.bool a) = .returned (.bool b):=by rw [h]
theorem ret_int {k : IntKind} {a b : Int} (h : a = b) : Ending.returned (.int k a) = .returned (.int k b):=by rw [h]
set_option maxHeartbeats 1000000 in
theorem type (a : Option Addr) (n cap : Nat) (t : Ty) (w : World) : Calls Try.prog 141 #[.slice a n cap,.agg #[.int .i64 t.kind,.int .i64 t.cls]] w fun e w'=>e = .returned (.bool (Hier.ty n t)) ∧ Below w.heap.size w w':=by
  obtain ⟨k,c⟩:=t
  have E : Hid (Hier.ty n ⟨k,c⟩ = if k = 1 ∨ k = 2 then decide (c = 0) else if k = 3 then decide (0 ≤ c ∧ c < n) else false):=rfl
  go_enter Try.func141,Try.ntmps141
  go_wp2
  all_goals go_ret
  all_goals go_tidy
  all_goals refine ⟨ret_bool ?_,Rd.byB⟩
  all_goals rw [E.out]
  all_goals simp_all
  all_goals first | rfl | (intros;omega)
set_option maxHeartbeats 1000000 in
theorem rtype (a : Option Addr) (n cap : Nat) (t : Ty) (w : World) : Calls Try.prog 98 #[.slice a n cap,.agg #[.int .i64 t.kind,.int .i64 t.cls]] w fun e w'=>e = .returned (.bool (Hier.ty n t)) ∧ Below w.heap.size w w':=by
  obtain ⟨k,c⟩:=t
  have E : Hid (Hier.ty n ⟨k,c⟩ = if k = 1 ∨ k = 2 then decide (c = 0) else if k = 3 then decide (0 ≤ c ∧ c < n) else false):=rfl
  go_enter Try.func98,Try.ntmps98
  go_wp2
  all_goals go_ret
  all_goals go_tidy
  all_goals refine ⟨ret_bool ?_,Rd.byB⟩
  all_goals rw [E.out]
  all_goals simp_all
  all_goals first | rfl | (intros;omega)
theorem kept {B : Nat} {w w' : World} {b o : Nat} {v : Value} (hb : Below B w w') (hlt : b < B) (h : w.cell? ⟨b,o,none⟩ = some v) : w'.cell? ⟨b,o,none⟩ = some v:=(hb.cell (p:=⟨b,o,none⟩) hlt).trans h
theorem cls_false {n : Int} {i : Nat} {c : Cls} (h : Hier.supOk i c.sup = false ∨ 6 < c.fields.length) : Hier.cls n i c = false:=by
  unfold Hier.cls
  rcases h with h | h
  · rw [h];rfl
  · rw [decide_eq_false (by omega)];simp
theorem cls_false_at {n : Int} {i j : Nat} {c : Cls} (h : j < c.fields.length) (hf : Hier.ty n c.fields[j] = false) : Hier.cls n i c = false:=by
  have : c.fields.all (Hier.ty n) = false:=by
    rw [List.all_eq_false];exact ⟨_,List.getElem_mem h,by rw [hf];simp⟩
  unfold Hier.cls;rw [this];simp
theorem cls_true {n : Int} {i : Nat} {c : Cls} (hs : Hier.supOk i c.sup = true) (hl : c.fields.length ≤ 6) (hf : ∀ j (h : j < c.fields.length),Hier.ty n c.fields[j] = true) : Hier.cls n i c = true:=by
  unfold Hier.cls;rw [hs,decide_eq_true hl]
  simp only [Bool.true_and,List.all_eq_true]
  intro x hx
  obtain ⟨j,hj,rfl⟩:=List.getElem_of_mem hx
  exact hf j hj
theorem all_next {l : List Cls} {n : Int} {k : Nat} (hall : ∀ j (h : j < l.length),j < k → Hier.cls n j l[j] = true) (hlt : k < l.length) (hc : Hier.cls n k l[k] = true) : ∀ j (h : j < l.length),j < k + 1 → Hier.cls n j l[j] = true:=fun j h hj=>by
  by_cases e : j = k
  · subst e;exact hc
  · exact hall j h (by omega)
theorem tys_next {l : List Ty} {n : Int} {k : Nat} (hall : ∀ j (h : j < l.length),j < k → Hier.ty n l[j] = true) (hlt : k < l.length) (hc : Hier.ty n l[k] = true) : ∀ j (h : j < l.length),j < k + 1 → Hier.ty n l[j] = true:=fun j h hj=>by
  by_cases e : j = k
  · subst e;exact hc
  · exact hall j h (by omega)
theorem at_of {α : Type} {l : List α} {k : Nat} (h : k < l.length) : ∃ c,Hid (l[k] = c):=⟨_,rfl⟩
set_option maxRecDepth 100000 in
set_option maxHeartbeats 4000000 in
theorem may (v : Value) (l : List Cls) (w : World) (h : Cs w v l) : Calls Try.prog 88 #[v] w fun e w'=>e = .returned (.bool (Hier.may l)) ∧ Below w.heap.size w w':=by
  obtain ⟨a,cap,rfl,hlc,hcc,hel⟩:=h
  by_cases q1 : l.length < 4
  · have e1:=Lib.hid (Hier.may_false_len (l:=l) (by omega))
    go_enter Try.func88,Try.ntmps88
    go_wp2
    all_goals go_ret
    all_goals exact ⟨ret_bool e1.out.symm,Rd.byB⟩
  by_cases q2 : 12 < l.length
  · have e1:=Lib.hid (Hier.may_false_len (l:=l) (by omega))
    go_enter Try.func88,Try.ntmps88
    go_wp2
    all_goals go_ret
    all_goals exact ⟨ret_bool e1.out.symm,Rd.byB⟩
  go_enter Try.func88,Try.ntmps88
  go_wp2
  go_loopw [17] (fun i wr=>∃ k : Nat,k ≤ l.length ∧ i = .int .i64 k ∧ Below w.heap.size w wr ∧ Hid (∀ j (h : j < l.length),j < k → Hier.cls l.length j l[j] = true)) (fun i _=>l.length - (intOf i).toNat)
  case atStart=>exact ⟨0,by omega,rfl,Rd.byB,fun j _ h=>absurd h (by omega)⟩
  case round =>
    obtain ⟨k,hk,rfl,hbw,hall⟩:=hrel
    by_cases hlt : k < l.length
    · obtain ⟨b,o,rfl,hb,he⟩:=hel k hlt
      have hno:=Lib.hid (fun hc=>Hier.may_false_at (l:=l) hlt hc)
      have hyes:=Lib.hid (all_next hall.out hlt)
      obtain ⟨c,hc⟩:=at_of hlt
      rw [hc.out] at he hno hyes
      obtain ⟨c,fl⟩:=c
      obtain ⟨g1,g2,fv,g3,fa,fcap,rfl,flc,fcc,fel⟩:=he
      simp only at g1 g2 g3 flc fel
      have k1:=kept hbw hb g1
      have k2:=kept hbw hb g3
      have hbs:=hbw.size
      clear hel g1 g3
      go_wp2_with (go_at_call 141;refine (type _ _ _ _ _).mono ?_;rintro e w1 ⟨rfl,hb1⟩)
      all_goals first
        | (go_ret
           refine ⟨ret_bool (hno.out (cls_false ?_)).symm,Rd.byB⟩
           simp only [Hier.supOk]
           (repeat' split) <;> simp <;> omega)
        | skip
      all_goals
        have hfl : fl.length ≤ 6:=by omega
        have hsup : Hid (Hier.supOk k c = true):=by
          show Hier.supOk k c = true
          unfold Hier.supOk
          split <;> rw [decide_eq_true_eq] <;> omega
        go_loopw [53] (fun i wr2=>∃ m : Nat,m ≤ fl.length ∧ i = .int .i64 m ∧ Below w.heap.size w wr2 ∧ Hid (∀ j (h : j < fl.length),j < m → Hier.ty l.length fl[j] = true)) (fun i _=>fl.length - (intOf i).toNat)
        case atStart=>exact ⟨0,by omega,rfl,Rd.byB,fun j _ h=>absurd h (by omega)⟩
        case round =>
          obtain ⟨m,hm,rfl,hbw2,hall2⟩:=hrel
          have hbs2:=hbw2.size
          by_cases hlt2 : m < fl.length
          · obtain ⟨fb,fo,rfl,hfb,fe⟩:=fel m hlt2
            obtain ⟨f1,f2,_,_⟩:=fe
            have hyes2:=Lib.hid (tys_next hall2.out hlt2)
            have hno2:=Lib.hid (fun hf=>hno.out (cls_false_at (c:=⟨c,fl⟩) hlt2 hf))
            obtain ⟨t,ht⟩:=at_of hlt2
            rw [ht.out] at f1 f2 hyes2 hno2
            have p1:=kept hbw2 hfb f1
            have p2:=kept hbw2 hfb f2
            clear fel f1 f2
            obtain ⟨tb,htb⟩ : ∃ tb,Hid (Hier.ty l.length t = tb):=⟨_,rfl⟩
            cases tb
            · go_wp2_with (go_at_call 141;refine (type _ _ _ t _).mono ?_;rw [htb.out];rintro e w1 ⟨rfl,hb1⟩)
              go_ret
              exact ⟨ret_bool (hno2.out htb.out).symm,(hbw2.alloc (by omega) _).trans (hb1.mono (by simp;omega))⟩
            · go_wp2_with (go_at_call 141;refine (type _ _ _ t _).mono ?_;rw [htb.out];rintro e w1 ⟨rfl,hb1⟩)
              go_roundw
              case rel=>exact ⟨m + 1,by omega,by go_num,(hbw2.alloc (by omega) _).trans (hb1.mono (by simp;omega)),hyes2.out htb.out⟩
              case measure=>simp [intOf];omega
          · obtain rfl : m = fl.length:=by omega
            have hnext:=Lib.hid (hyes.out (cls_true (c:=⟨c,fl⟩) hsup.out hfl (fun j hj=>hall2.out j hj hj)))
            go_wp2
            go_roundw
            case rel=>exact ⟨k + 1,by omega,by go_num,hbw2,hnext.out⟩
            case measure=>simp [intOf];omega
    · have e1 : Hid (Hier.may l = true):=(Hier.may_iff l).2 ⟨by omega,fun j h=>hall.out j h (by omega)⟩
      go_wp2
      all_goals go_ret
      all_goals exact ⟨ret_bool e1.out.symm,hbw⟩
end HierW
end Go.Proofs.Ytncmhenfgbcihab
namespace Go.Proofs.Ytncmhenfgbcihab
open Go.RowKit
set_option linter.unusedSimpArgs false
set_option linter.unusedVariables false
namespace UpW
section
variable {F : Fence} {n : Nat} {P : Program}
def Lets {β : Type} (p : Addr) (J : β → World → Prop) : Prop:=∀ s W v,J s W → J s (W.setCell p v)
theorem setCell_obj {W : World} {p : Addr} {v : Value} {k : Nat} {o : Obj} (h : W.heap[k]? = some o) (hc : o.isCells = false) : (W.setCell p v).heap[k]? = some o:=by
  simp only [World.setCell,Array.getElem?_modify]
  split
  · rename_i e
    subst e
    rw [h]
    cases o <;> simp_all [Obj.isCells]
  · exact h
def Gives {α : Type} (F : Fence) (n : Nat) (P : Program) (g : Nat) (lb : Array Value) (encs : α → Array Value) (Kp : World → World → Prop) (S Sp : List α → Prop) (box : Addr) (w : World) : Prop :=
  ∀ (l : Nat) (J Jx : List α → World → Prop) (W : World),Kp w W → Lets box J → Lets box Jx →
    (∀ pre x W1,J pre W1 → YieldAt F (n - 1) P l (encs x) W1 fun e W' =>
      (e = .returned (.bool true) ∧ J (pre ++ [x]) W' ∧ Kp W1 W') ∨ (e = .returned (.bool false) ∧ Jx (pre ++ [x]) W')) →
    J [] W →
    CallsIn F n P g (#[.func (.yield l) #[] #[]] ++ lb) W fun e W'=>(∃ v,e = .returned v) ∧ ((∃ xs,S xs ∧ J xs W') ∨ (∃ pre,Sp pre ∧ Jx pre W'))
theorem range {α : Type} {g : Operand} {ps : Array Tmp} {assign body : Code} {Q : Exit → Act → World → Prop} {a : Act} {w : World}
    (hro : F.round = none) (h1 : 1 ≤ n) {gf : Nat} {lb : Array Value} (hg : a.eval g = .func (.func gf) #[] lb) (hFg : F.fn gf) (eg : ∀ args w,(callFunc gf args).run P w = .ok (.enter gf args) w)
    {encs : α → Array Value} {Kp : World → World → Prop} {S Sp : List α → Prop} {box : Addr} (hgv : Gives F (n - 1) P gf lb encs Kp S Sp box w)
    (hKt : ∀ {A B C : World},Kp A B → Kp B C → Kp A C) (hKr : Kp w w) (hKa : ∀ (W : World) (o : Obj),Kp w W → Kp w (W.alloc o))
    (hKb : ∀ (W : World) (l : Nat) (o o' : Obj),w.heap.size ≤ l → W.heap[l]? = some o → o.isCells = false → o.isWalk = false → Kp W (W.putObj l o')) (hps : ∀ x,(encs x).size = ps.size)
    (I : List α → World → Prop) (Ix : Code → List α → World → Prop) (hI : OwnFrom w.heap.size I) (hIx : ∀ c,OwnFrom w.heap.size (Ix c)) (hIb : Lets box I) (hIxb : ∀ c,Lets box (Ix c)) (h0 : I [] w) (a₁ : α → Act)
    (hassign : ∀ (l : Nat) (x : α) (W : World) (K : Act → World → Prop),K (a₁ x) W →
      assign.wpIn (F.inRound l) (n - 1 - 1) P (Exit.then K (fun _ _ _=>False)) { tmps:=(ps.zip (encs x)).foldl (fun t (p,v)=>t.setIfInBounds p v) a.tmps,defers:=[] } W)
    (hbody : ∀ (l : Nat) (pre : List α) (x : α) (W : World),I pre W → body.wpIn (F.inRound l) (n - 1 - 1) P (ownPostK Kp I Ix (pre ++ [x]) W) (a₁ x) W)
    (hdone : ∀ (D : Nat) (xs : List α) (W : World),w.heap.size ≤ D → S xs → I xs W → W.heap[D]? = some (.deferred (some [])) → Q .normal { a with defers:={ target:=.collected D,args:=#[] } :: a.defers } W)
    (hstop : ∀ (D : Nat) (c : Code) (pre : List α) (W : World),w.heap.size ≤ D → Sp pre → Ix c pre W → W.heap[D]? = some (.deferred (some [])) → c.wpIn F n P Q { a with defers:={ target:=.collected D,args:=#[] } :: a.defers } W) :
    (Code.rangeFunc g ps assign body).wpIn F n P Q a w:=by
  refine wpIn_rangeFunc ?_
  intro fn hfn
  rw [hro]
  obtain ⟨rec,hrec⟩ : ∃ rec : LoopState → Option Code → Loop,rec = fun st pe=>{ state:=st,pending:=pe,fn,tmps:=a.tmps,params:=ps,assign,body,defers:=w.heap.size }:=⟨_,rfl⟩
  obtain ⟨W1,hW1⟩ : ∃ W1,(w.alloc (.deferred (some []))).alloc (.loop (rec .ready none)) = W1:=⟨_,rfl⟩
  have hL1 : W1.heap[w.heap.size + 1]? = some (.loop (rec .ready none)):=by
    rw [← hW1];have:=World.alloc_heap_new (w.alloc (.deferred (some []))) (.loop (rec .ready none));rwa [World.size_alloc] at this
  have hK1 : W1.heap[w.heap.size]? = some (.deferred (some [])):=by
    rw [← hW1];exact (Below.heap_alloc _ _ _ (by simp)).trans (World.alloc_heap_new w _)
  have hI1 : I [] W1:=by rw [← hW1];exact hI.alloc _ (hI.alloc _ h0)
  have hb1 : Kp w W1:=by rw [← hW1];exact hKa _ _ (hKa _ _ hKr)
  refine ⟨w.heap.size + 1,[{ target:=.collected w.heap.size,args:=#[] }],W1,{ target:=.fn (.func gf) lb,args:=#[.func (.yield (w.heap.size + 1)) #[] #[]] },W1,gf,
    #[.func (.yield (w.heap.size + 1)) #[] #[]] ++ lb,W1,?_,?_,?_,?_,fun _=>h1,?_⟩
  · rw [← hW1,hrec];exact run_enterLoop_outer _ _ _ _ _
  · simp only [resolve,hg]
    simp [go_sem]
  · intro f' hf';simp [Target.leads] at hf';subst hf';exact hFg
  · simp [invoke,go_sem,eg]
  · refine (hgv (w.heap.size + 1)
      (fun pre W=>I pre W ∧ W.heap[w.heap.size + 1]? = some (.loop (rec .ready none)) ∧ W.heap[w.heap.size]? = some (.deferred (some [])))
      (fun pre W=>∃ c,Ix c pre W ∧ W.heap[w.heap.size + 1]? = some (.loop (rec .done (some c))) ∧ W.heap[w.heap.size]? = some (.deferred (some [])))
      W1 hb1
      (fun s W v hs=>⟨hIb s W v hs.1,setCell_obj hs.2.1 rfl,setCell_obj hs.2.2 rfl⟩)
      (fun s W v hs=>by
        obtain ⟨c,hc,hl,hk⟩:=hs
        exact ⟨c,hIxb c s W v hc,setCell_obj hl rfl,setCell_obj hk rfl⟩)
      ?_ ⟨hI1,hL1,hK1⟩).mono ?_
    · rintro pre x W ⟨hi,hl,hk⟩
      have hlt : w.heap.size + 1 < W.heap.size:=(Array.getElem?_eq_some_iff.1 hl).1
      have hy:=run_yield (P:=P) (args:=encs x) hl (by rw [hrec];exact hps x)
      rw [hrec] at hy
      refine ⟨fn,_,assign,body,hy,roundIn_of_wpIn hfn (hassign _ x W _ ⟨_,run_beginRound hl (by rw [hrec]),?_⟩)⟩
      have hl2 : (W.putObj (w.heap.size + 1) (.loop { rec .ready none with state:=.busy })).heap[w.heap.size + 1]? = some (.loop { rec .ready none with state:=.busy }):=World.putObj_heap_same hlt
      have hk2 : (W.putObj (w.heap.size + 1) (.loop { rec .ready none with state:=.busy })).heap[w.heap.size]? = some (.deferred (some [])):=(World.putObj_heap_other (by omega)).trans hk
      have hw2 : Kp W (W.putObj (w.heap.size + 1) (.loop { rec .ready none with state:=.busy })):=hKb _ _ _ _ (by omega) hl rfl rfl
      refine wpIn_mono (hbody _ pre x _ (hI.putObj _ hi (by omega) hl rfl)) ?_
      have fin : ∀ (jump : Option Code) (W3 : World), KeepsOthers (W.putObj (w.heap.size + 1) (.loop { rec .ready none with state := .busy })) W3 →
          (Instr.endRound (w.heap.size + 1) jump).run P W3 = .ok (.bool jump.isNone) (W3.putObj (w.heap.size + 1) (.loop (rec (if jump.isNone then .ready else .done) jump))) ∧
          W3.heap[w.heap.size + 1]? = some (.loop { rec .ready none with state:=.busy }) ∧
          (W3.putObj (w.heap.size + 1) (.loop (rec (if jump.isNone then .ready else .done) jump))).heap[w.heap.size + 1]? = some (.loop (rec (if jump.isNone then .ready else .done) jump)) ∧
          (W3.putObj (w.heap.size + 1) (.loop (rec (if jump.isNone then .ready else .done) jump))).heap[w.heap.size]? = some (.deferred (some [])):=fun jump W3 hk3=>by
        have hl3:=hk3.same _ _ hl2 rfl
        have:=run_endRound (P:=P) jump hl3
        rw [hrec] at this ⊢
        exact ⟨this,by rw [hrec] at hl3;exact hl3,World.putObj_heap_same (Array.getElem?_eq_some_iff.1 hl3).1,(World.putObj_heap_other (by omega)).trans (hk3.same _ _ hk2 rfl)⟩
      rintro e a3 W3 hp
      cases e with
      | normal =>
        obtain ⟨hk3,hkp3,hi3⟩:=hp
        obtain ⟨hr,hl3,hl4,hk4⟩:=fin none W3 hk3
        exact ⟨_,_,hr,.inl ⟨rfl,⟨hI.putObj _ hi3 (by omega) hl3 rfl,hl4,hk4⟩,hKt (hKt hw2 hkp3) (hKb _ _ _ _ (by omega) hl3 rfl rfl)⟩⟩
      | ret =>
        obtain ⟨hk3,hi3⟩:=hp
        obtain ⟨hr,hl3,hl4,hk4⟩:=fin (some .ret) W3 hk3
        exact ⟨_,_,hr,.inr ⟨rfl,.ret,(hIx _).putObj _ hi3 (by omega) hl3 rfl,hl4,hk4⟩⟩
      | exit id =>
        obtain ⟨hk3,hi3⟩:=hp
        obtain ⟨hr,hl3,hl4,hk4⟩:=fin (some (.exit id)) W3 hk3
        exact ⟨_,_,hr,.inr ⟨rfl,.exit id,(hIx _).putObj _ hi3 (by omega) hl3 rfl,hl4,hk4⟩⟩
      | goto t =>
        obtain ⟨hk3,hi3⟩:=hp
        obtain ⟨hr,hl3,hl4,hk4⟩:=fin (some (.goto t)) W3 hk3
        exact ⟨_,_,hr,.inr ⟨rfl,.goto t,(hIx _).putObj _ hi3 (by omega) hl3 rfl,hl4,hk4⟩⟩
      | panic ch=>exact hp.elim
      | outgrown=>exact hp.elim
    · rintro e W2 ⟨⟨v,rfl⟩,(⟨xs,hS,hi,hl,hk⟩ | ⟨pre,hSp,c,hi,hl,hk⟩)⟩
      · exact ⟨none,_,by have:=run_endLoop (P:=P) hl (by rw [hrec];simp);rw [hrec] at this;exact this,hdone _ xs _ (Nat.le_refl _) hS (hI.putObj _ hi (by omega) hl rfl) ((World.putObj_heap_other (by omega)).trans hk)⟩
      · exact ⟨some c,_,by have:=run_endLoop (P:=P) hl (by rw [hrec];simp);rw [hrec] at this;exact this,hstop _ c pre _ (Nat.le_refl _) hSp ((hIx c).putObj _ hi (by omega) hl rfl) ((World.putObj_heap_other (by omega)).trans hk)⟩
end
end UpW
end Go.Proofs.Ytncmhenfgbcihab
