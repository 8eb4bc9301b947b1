/- Parts of the proof: RunL, Long, Lo, Ls. -/
import Derived.Test.YtncmhenfgbcihabG02
import Derived.Test.YtncmhenfgbcihabG01
import Derived.BigQuiet
import Derived.Deep.QuietTactic
import Derived.Test.YtncmhenfgbcihabG12
namespace Go.Proofs.Ytncmhenfgbcihab
open Go.RowKit
set_option linter.unusedVariables false
set_option linter.unusedSimpArgs false
namespace Run
open D Num
def Res.hp {α : Type} : Res α → Hp
  | .ok _ h=>h
  | .thrown _ h=>h
  | .stop _ h=>h
def Act.hp {Fr : Type} : Act Fr → Hp
  | .go _ h=>h
  | .back _ h=>h
  | .thrown _ h=>h
  | .stop _ h=>h
  | .call _ _ _ h=>h
def Grow (h0 h : Hp) : Prop:=h0.out <+: h.out ∧ h.steps = h0.steps
theorem Grow.refl (h : Hp) : Grow h h:=⟨List.prefix_rfl,rfl⟩
theorem Grow.trans {a b c : Hp} (h : Grow a b) (k : Grow b c) : Grow a c:=⟨h.1.trans k.1,k.2.trans h.2⟩
def ActG {Fr : Type} (h0 : Hp) (a : Act Fr) : Prop:=Grow h0 a.hp ∧ ∀ e h,a = .stop e h → e ≠ 0
def ResG {α : Type} (h0 : Hp) (r : Res α) : Prop:=Grow h0 r.hp ∧ ∀ e h,r = .stop e h → e ≠ 0
theorem act_g {Fr α : Type} {h0 : Hp} {r : Res α} {k : α → Hp → Act Fr} (hr : ResG h0 r) (hk : ∀ a h,Grow h0 h → ActG h0 (k a h)) : ActG h0 (r.act k):=by
  cases r with
  | ok a h=>exact hk a h hr.1
  | thrown o h=>exact ⟨hr.1,fun e h' x=>by cases x⟩
  | stop e h=>exact ⟨hr.1,fun e' h' x=>by injection x with x1 x2;subst x1;exact hr.2 e h rfl⟩
theorem stop_g {Fr : Type} {h0 h : Hp} (hg : Grow h0 h) {e : Int} (he : e ≠ 0) : ActG h0 (.stop e h : Act Fr):=⟨hg,fun e' h' x=>by injection x with x1 x2;subst x1;exact he⟩
theorem go_g {Fr : Type} {h0 h : Hp} (hg : Grow h0 h) (fr : Fr) : ActG h0 (.go fr h):=⟨hg,fun e' h' x=>by cases x⟩
theorem rstop_g {α : Type} {h0 h : Hp} (hg : Grow h0 h) {e : Int} (he : e ≠ 0) : ResG h0 (.stop e h : Res α):=⟨hg,fun e' h' x=>by injection x with x1 x2;subst x1;exact he⟩
theorem rok_g {α : Type} {h0 h : Hp} (hg : Grow h0 h) (a : α) : ResG h0 (.ok a h):=⟨hg,fun e' h' x=>by cases x⟩
theorem rthrown_g {α : Type} {h0 h : Hp} (hg : Grow h0 h) (o : Nat) : ResG h0 (.thrown o h : Res α):=⟨hg,fun e' h' x=>by cases x⟩
section
variable (l : List Cls) (h : Hp)
theorem new_g (c : Int) : ResG h (new l c h):=by
  unfold new;split
  · exact rstop_g (Grow.refl _) (by decide)
  · exact rok_g (h0:=h) (by exact ⟨List.prefix_rfl,rfl⟩) _
theorem raise_g {α : Type} (c : Int) : ResG h (raise l c h : Res α):=by
  unfold raise new;split
  · exact rstop_g (Grow.refl _) (by decide)
  · exact rthrown_g (h0:=h) (by exact ⟨List.prefix_rfl,rfl⟩) _
theorem throw_g {α : Type} (v : Vl) : ResG h (throw l v h : Res α):=by
  unfold throw;split
  · exact rstop_g (Grow.refl _) (by decide)
  · split
    · exact raise_g l h _
    · exact rthrown_g (Grow.refl _) _
theorem get_g (v : Vl) (c k : Int) : ResG h (get l v c k h):=by
  unfold get;split
  · exact rstop_g (Grow.refl _) (by decide)
  · split
    · exact raise_g l h _
    · exact rok_g (Grow.refl _) _
theorem put_g (r : Vl) (c k : Int) (v : Vl) (t : Ty) : ResG h (put l r c k v t h):=by
  unfold put;split
  · exact rstop_g (Grow.refl _) (by decide)
  · split
    · exact rstop_g (Grow.refl _) (by decide)
    · split
      · exact raise_g l h _
      · exact rok_g (h0:=h) (by exact ⟨List.prefix_rfl,rfl⟩) _
theorem cast_g (v : Vl) (c : Int) : ResG h (cast l v c h):=by
  unfold cast;split
  · exact rstop_g (Grow.refl _) (by decide)
  · split
    · exact raise_g l h _
    · exact rok_g (Grow.refl _) _
theorem isV_g (v : Vl) (c : Int) : ResG h (isV l v c h):=by
  unfold isV;split
  · exact rstop_g (Grow.refl _) (by decide)
  · exact rok_g (Grow.refl _) _
theorem reckon_g (a b : Vl) (kind op : Int) : ResG h (reckon l a b kind op h):=by
  unfold reckon;split
  · exact rstop_g (Grow.refl _) (by decide)
  · split
    · exact raise_g l h _
    · exact rok_g (Grow.refl _) _
theorem emit_g (v : Vl) (kind : Int) : ResG h (emit v kind h):=by
  unfold emit;split
  · exact rstop_g (Grow.refl _) (by decide)
  · exact rok_g (h0:=h) (by exact ⟨List.prefix_append _ _,rfl⟩) _
theorem takeIn_g (input : List Int) : ResG h (takeIn input h):=by
  unfold takeIn;split
  · exact rstop_g (Grow.refl _) (by decide)
  · exact rok_g (h0:=h) (by exact ⟨List.prefix_rfl,rfl⟩) _
end
section
variable {f : Fi} {input : List Int} {m : Me} {i : Ins} {fr : Sf} {h0 h : Hp}
theorem push_g (hg : Grow h0 h) (st : List Vl) (v : Vl) : ActG h0 (push m fr st v h):=by
  unfold push;split
  · exact go_g hg _
  · exact stop_g hg (by decide)
theorem pop1_g (hg : Grow h0 h) {k : Vl → List Vl → Act Sf} (hk : ∀ v st,ActG h0 (k v st)) : ActG h0 (pop1 fr h k):=by
  unfold pop1;split
  · exact stop_g hg (by decide)
  · exact hk _ _
theorem pop2_g (hg : Grow h0 h) {k : Vl → Vl → List Vl → Act Sf} (hk : ∀ a b st,ActG h0 (k a b st)) : ActG h0 (pop2 fr h k):=by
  unfold pop2
  refine pop1_g hg (fun b st=>?_)
  split
  · exact stop_g hg (by decide)
  · exact hk _ _ _
theorem kindly_g (hg : Grow h0 h) {v : Vl} {kind : Int} {k : Act Sf} (hk : ActG h0 k) : ActG h0 (kindly v kind h k):=by
  unfold kindly;split
  · exact hk
  · exact stop_g hg (by decide)
theorem sstep_g : ActG h (sstep f input m i fr h):=by
  have G:=Grow.refl h
  unfold sstep
  by_cases q : i.op = 1
  · rw [if_pos q];exact push_g G _ _
  rw [if_neg q];clear q
  by_cases q : i.op = 2
  · rw [if_pos q];exact push_g G _ _
  rw [if_neg q];clear q
  by_cases q : i.op = 3
  · rw [if_pos q];exact push_g G _ _
  rw [if_neg q];clear q
  by_cases q : i.op = 4
  · rw [if_pos q];exact kindly_g G (push_g G _ _)
  rw [if_neg q];clear q
  by_cases q : i.op = 5
  · rw [if_pos q];exact pop1_g G (fun v st=>kindly_g G (go_g G _))
  rw [if_neg q];clear q
  by_cases q : i.op = 6
  · rw [if_pos q];exact pop2_g G (fun a b st=>act_g (reckon_g _ _ _ _ _ _) (fun v h' g=>push_g g _ _))
  rw [if_neg q];clear q
  by_cases q : i.op = 7
  · rw [if_pos q];exact pop2_g G (fun a b st=>act_g (reckon_g _ _ _ _ _ _) (fun v h' g=>push_g g _ _))
  rw [if_neg q];clear q
  by_cases q : i.op = 8
  · rw [if_pos q];exact pop1_g G (fun v st=>kindly_g G (push_g G _ _))
  rw [if_neg q];clear q
  by_cases q : i.op = 9
  · rw [if_pos q];exact pop1_g G (fun v st=>kindly_g G (push_g G _ _))
  rw [if_neg q];clear q
  by_cases q : i.op = 10
  · rw [if_pos q];exact pop2_g G (fun a b st=>kindly_g G (kindly_g G (push_g G _ _)))
  rw [if_neg q];clear q
  by_cases q : i.op = 11
  · rw [if_pos q];exact go_g G _
  rw [if_neg q];clear q
  by_cases q : i.op = 12
  · rw [if_pos q];exact pop1_g G (fun v st=>kindly_g G (go_g G _))
  rw [if_neg q];clear q
  by_cases q : i.op = 13
  · rw [if_pos q];exact pop1_g G (fun v st=>kindly_g G (go_g G _))
  rw [if_neg q];clear q
  by_cases q : i.op = 14
  · rw [if_pos q];exact act_g (new_g _ _ _) (fun v h' g=>push_g g _ _)
  rw [if_neg q];clear q
  by_cases q : i.op = 15
  · rw [if_pos q];exact pop1_g G (fun v st=>act_g (get_g _ _ _ _ _) (fun v h' g=>push_g g _ _))
  rw [if_neg q];clear q
  by_cases q : i.op = 16
  · rw [if_pos q];exact pop2_g G (fun r v st=>kindly_g G (act_g (put_g _ _ _ _ _ _ _) (fun _ h' g=>go_g g _)))
  rw [if_neg q];clear q
  by_cases q : i.op = 17
  · rw [if_pos q];exact pop1_g G (fun v st=>act_g (cast_g _ _ _ _) (fun _ h' g=>push_g g _ _))
  rw [if_neg q];clear q
  by_cases q : i.op = 18
  · rw [if_pos q];exact pop1_g G (fun v st=>act_g (isV_g _ _ _ _) (fun _ h' g=>push_g g _ _))
  rw [if_neg q];clear q
  by_cases q : i.op = 19
  · rw [if_pos q];clear q
    unfold s19;split
    · exact stop_g G (by decide)
    · exact ⟨G,fun e h' x=>by cases x⟩
  rw [if_neg q];clear q
  by_cases q : i.op = 20
  · rw [if_pos q];clear q
    unfold s20;split
    · exact ⟨G,fun e h' x=>by cases x⟩
    · refine pop1_g G (fun v st=>?_)
      split
      · exact ⟨G,fun e h' x=>by cases x⟩
      · exact stop_g G (by decide)
  rw [if_neg q];clear q
  by_cases q : i.op = 21
  · rw [if_pos q];exact pop1_g G (fun v st=>act_g (throw_g _ _ _) (fun _ h' g=>stop_g g (by decide)))
  rw [if_neg q];clear q
  by_cases q : i.op = 22
  · rw [if_pos q];exact pop1_g G (fun v st=>go_g G _)
  rw [if_neg q];clear q
  by_cases q : i.op = 23
  · rw [if_pos q];clear q
    refine pop1_g G (fun v st=>?_)
    split
    · exact go_g G _
    · exact stop_g G (by decide)
  rw [if_neg q];clear q
  by_cases q : i.op = 24
  · rw [if_pos q];exact pop1_g G (fun v st=>act_g (emit_g _ _ _) (fun _ h' g=>go_g g _))
  rw [if_neg q];clear q
  by_cases q : i.op = 25
  · rw [if_pos q];exact act_g (takeIn_g _ _) (fun v h' g=>push_g g _ _)
  rw [if_neg q];clear q
  exact stop_g G (by decide)
end
section
variable {f : Fi} {input : List Int} {m : Me} {i : Ins} {fr : Rf} {h0 h : Hp}
theorem rkind_g (hg : Grow h0 h) {v : Vl} {kind : Int} {k : Act Rf} (hk : ActG h0 k) : ActG h0 (rkind v kind h k):=by
  unfold rkind;split
  · exact hk
  · exact stop_g hg (by decide)
theorem rstep_g : ActG h (rstep f input m i fr h):=by
  have G:=Grow.refl h
  unfold rstep
  by_cases q : i.op = 1
  · rw [if_pos q];exact go_g G _
  rw [if_neg q];clear q
  by_cases q : i.op = 2
  · rw [if_pos q];exact go_g G _
  rw [if_neg q];clear q
  by_cases q : i.op = 3
  · rw [if_pos q];exact go_g G _
  rw [if_neg q];clear q
  by_cases q : i.op = 4
  · rw [if_pos q];exact rkind_g G (go_g G _)
  rw [if_neg q];clear q
  by_cases q : i.op = 5
  · rw [if_pos q];exact act_g (reckon_g _ _ _ _ _ _) (fun v h' g=>go_g g _)
  rw [if_neg q];clear q
  by_cases q : i.op = 6
  · rw [if_pos q];exact act_g (reckon_g _ _ _ _ _ _) (fun v h' g=>go_g g _)
  rw [if_neg q];clear q
  by_cases q : i.op = 7
  · rw [if_pos q];exact rkind_g G (go_g G _)
  rw [if_neg q];clear q
  by_cases q : i.op = 8
  · rw [if_pos q];exact rkind_g G (go_g G _)
  rw [if_neg q];clear q
  by_cases q : i.op = 9
  · rw [if_pos q];exact rkind_g G (rkind_g G (go_g G _))
  rw [if_neg q];clear q
  by_cases q : i.op = 10
  · rw [if_pos q];exact go_g G _
  rw [if_neg q];clear q
  by_cases q : i.op = 11
  · rw [if_pos q];exact rkind_g G (go_g G _)
  rw [if_neg q];clear q
  by_cases q : i.op = 12
  · rw [if_pos q];exact rkind_g G (go_g G _)
  rw [if_neg q];clear q
  by_cases q : i.op = 13
  · rw [if_pos q];exact act_g (new_g _ _ _) (fun v h' g=>go_g g _)
  rw [if_neg q];clear q
  by_cases q : i.op = 14
  · rw [if_pos q];exact rkind_g G (act_g (get_g _ _ _ _ _) (fun v h' g=>go_g g _))
  rw [if_neg q];clear q
  by_cases q : i.op = 15
  · rw [if_pos q];exact rkind_g G (rkind_g G (act_g (put_g _ _ _ _ _ _ _) (fun v h' g=>go_g g _)))
  rw [if_neg q];clear q
  by_cases q : i.op = 16
  · rw [if_pos q];exact rkind_g G (act_g (cast_g _ _ _ _) (fun v h' g=>go_g g _))
  rw [if_neg q];clear q
  by_cases q : i.op = 17
  · rw [if_pos q];exact rkind_g G (act_g (isV_g _ _ _ _) (fun v h' g=>go_g g _))
  rw [if_neg q];clear q
  by_cases q : i.op = 18
  · rw [if_pos q];clear q
    unfold r18;split
    · exact stop_g G (by decide)
    · exact ⟨G,fun e h' x=>by cases x⟩
  rw [if_neg q];clear q
  by_cases q : i.op = 19
  · rw [if_pos q];exact rkind_g G (go_g G _)
  rw [if_neg q];clear q
  by_cases q : i.op = 20
  · rw [if_pos q];clear q
    unfold r20;split
    · exact ⟨G,fun e h' x=>by cases x⟩
    · refine rkind_g G ?_
      split
      · exact ⟨G,fun e h' x=>by cases x⟩
      · exact stop_g G (by decide)
  rw [if_neg q];clear q
  by_cases q : i.op = 21
  · rw [if_pos q];exact rkind_g G (act_g (throw_g _ _ _) (fun _ h' g=>stop_g g (by decide)))
  rw [if_neg q];clear q
  by_cases q : i.op = 22
  · rw [if_pos q];exact rkind_g G (go_g G _)
  rw [if_neg q];clear q
  by_cases q : i.op = 23
  · rw [if_pos q];exact rkind_g G (act_g (emit_g _ _ _) (fun _ h' g=>go_g g _))
  rw [if_neg q];clear q
  by_cases q : i.op = 24
  · rw [if_pos q];exact act_g (takeIn_g _ _) (fun v h' g=>go_g g _)
  rw [if_neg q];clear q
  exact stop_g G (by decide)
end
def Lgr (a : Nat) (h0 : Hp) (r r' : Res Vl) : Prop :=
  (h0.out <+: r.hp.out ∧ h0.steps ≤ r.hp.steps ∧ r.hp.steps ≤ a ∧ h0.out <+: r'.hp.out ∧ h0.steps ≤ r'.hp.steps) ∧
  ((r = r' ∧ ∀ h,r ≠ .stop 0 h) ∨ (∃ h1,r = .stop 0 h1 ∧ h1.steps = a ∧ h1.out <+: r'.hp.out ∧ a ≤ r'.hp.steps))
theorem Lgr.from {a : Nat} {h0 h1 : Hp} {r r' : Res Vl} (h : Lgr a h1 r r') (h2 : h0.out <+: h1.out) (h3 : h0.steps ≤ h1.steps) : Lgr a h0 r r':=by
  obtain ⟨⟨a1,a2,a3,a4,a5⟩,b⟩:=h
  exact ⟨⟨h2.trans a1,by omega,a3,h2.trans a4,by omega⟩,b⟩
theorem Lgr.same {a : Nat} {h0 : Hp} {r : Res Vl} (h1 : h0.out <+: r.hp.out) (h2 : h0.steps ≤ r.hp.steps) (h3 : r.hp.steps ≤ a) (h4 : ∀ h,r ≠ .stop 0 h) : Lgr a h0 r r:=⟨⟨h1,h2,h3,h1,h2⟩,.inl ⟨rfl,h4⟩⟩
theorem loop_grow {Fr : Type} (M : Mach Fr) (hM : ∀ f input m i fr h, ActG h (M.step f input m i fr h)) (f : Fi) (input : List Int) (fuel : Nat) :
    ∀ (g d : Nat) (m : Me) (fr : Fr) (h : Hp),h.out <+: (loop M f input fuel g d m fr h).hp.out ∧ h.steps ≤ (loop M f input fuel g d m fr h).hp.steps:=by
  intro g
  induction g with
  | zero=>intro d m fr h;exact ⟨List.prefix_rfl,Nat.le_refl _⟩
  | succ g ih =>
    intro d m fr h
    have step : ∀ {r : Res Vl} {h1 : Hp},(h.out <+: h1.out ∧ h.steps ≤ h1.steps) → (h1.out <+: r.hp.out ∧ h1.steps ≤ r.hp.steps) → (h.out <+: r.hp.out ∧ h.steps ≤ r.hp.steps):=fun p q=>⟨p.1.trans q.1,Nat.le_trans p.2 q.2⟩
    rw [loop]
    split
    · exact ⟨List.prefix_rfl,Nat.le_refl _⟩
    · split
      · exact ⟨List.prefix_rfl,Nat.le_succ _⟩
      · rename_i i hi
        have hg:=(hM f input m i fr { h with steps:=h.steps + 1 }).1
        cases hc : M.step f input m i fr { h with steps:=h.steps + 1 } with
        | stop e h'=>rw [hc] at hg;exact ⟨hg.1,by have:=hg.2;simp only [Act.hp] at this;show _ ≤ h'.steps;omega⟩
        | back v h'=>rw [hc] at hg;exact ⟨hg.1,by have:=hg.2;simp only [Act.hp] at this;show _ ≤ h'.steps;omega⟩
        | go fr' h'=>rw [hc] at hg;exact step (h1:=h') ⟨hg.1,by have:=hg.2;simp only [Act.hp] at this;omega⟩ (ih d m fr' h')
        | thrown o h' =>
          rw [hc] at hg
          have h1 : h.out <+: h'.out ∧ h.steps ≤ h'.steps:=⟨hg.1,by have:=hg.2;simp only [Act.hp] at this;omega⟩
          simp only
          cases after M f m fr o h' with
          | go fr'=>exact step h1 (ih d m fr' h')
          | thrown=>exact h1
          | stuck=>exact h1
        | call k args fr' h' =>
          rw [hc] at hg
          have h1 : h.out <+: h'.out ∧ h.steps ≤ h'.steps:=⟨hg.1,by have:=hg.2;simp only [Act.hp] at this;omega⟩
          simp only
          split
          · exact h1
          · split
            · exact h1
            · have hin:=ih (d + 1) (meAt f k) (M.enter (meAt f k) args) h'
              cases hr : loop M f input fuel g (d + 1) (meAt f k) (M.enter (meAt f k) args) h' with
              | stop e' h2=>rw [hr] at hin;exact step h1 hin
              | ok v h2 =>
                rw [hr] at hin
                simp only
                cases M.resume m (meAt f k) fr' v with
                | none=>exact step h1 hin
                | some fr2=>exact step (step (r:=.ok v h2) h1 hin) (ih d m fr2 h2)
              | thrown o h2 =>
                rw [hr] at hin
                simp only
                cases after M f m fr' o h2 with
                | go fr2=>exact step (step (r:=.ok Vl.nil h2) h1 hin) (ih d m fr2 h2)
                | thrown=>exact step h1 hin
                | stuck=>exact step h1 hin
theorem loop_longer {Fr : Type} (M : Mach Fr) (hM : ∀ f input m i fr h, ActG h (M.step f input m i fr h)) (f : Fi) (input : List Int) (a b : Nat) (hab : a ≤ b) :
    ∀ (g g' d : Nat) (m : Me) (fr : Fr) (h : Hp),a < g + h.steps → b < g' + h.steps → h.steps ≤ a → Lgr a h (loop M f input a g d m fr h) (loop M f input b g' d m fr h):=by
  intro g
  induction g with
  | zero=>intro g' d m fr h h1 h2 h3;omega
  | succ g ih =>
    intro g' d m fr h h1 h2 h3
    cases g' with
    | zero=>omega
    | succ g' =>
      by_cases hs : a ≤ h.steps
      · have hg:=loop_grow M hM f input b (g' + 1) d m fr h
        rw [loop,if_pos hs]
        exact ⟨⟨List.prefix_rfl,Nat.le_refl _,h3,hg⟩,.inr ⟨h,rfl,by omega,hg.1,by have:=hg.2;omega⟩⟩
      · rw [loop,loop,if_neg hs,if_neg (by omega)]
        cases hi : m.code[M.at_ fr]? with
        | none=>exact Lgr.same List.prefix_rfl (Nat.le_succ _) (by show h.steps + 1 ≤ a;omega) (fun h' x=>by injection x with x;cases x)
        | some i =>
          have hg:=(hM f input m i fr { h with steps:=h.steps + 1 })
          simp only
          cases hc : M.step f input m i fr { h with steps:=h.steps + 1 } with
          | stop e h' =>
            rw [hc] at hg
            obtain ⟨⟨g1,g2⟩,g3⟩:=hg
            simp only [Act.hp] at g1 g2
            exact Lgr.same g1 (by show _ ≤ h'.steps;omega) (by show h'.steps ≤ a;omega) (fun h2 x=>by injection x with x1 x2;exact g3 e h' rfl x1)
          | back v h' =>
            rw [hc] at hg
            obtain ⟨⟨g1,g2⟩,g3⟩:=hg
            simp only [Act.hp] at g1 g2
            exact Lgr.same g1 (by show _ ≤ h'.steps;omega) (by show h'.steps ≤ a;omega) (fun h2 x=>by cases x)
          | go fr' h' =>
            rw [hc] at hg
            obtain ⟨⟨g1,g2⟩,g3⟩:=hg
            simp only [Act.hp] at g1 g2
            exact (ih g' d m fr' h' (by omega) (by omega) (by omega)).from g1 (by omega)
          | thrown o h' =>
            rw [hc] at hg
            obtain ⟨⟨g1,g2⟩,g3⟩:=hg
            simp only [Act.hp] at g1 g2
            simp only
            cases after M f m fr o h' with
            | go fr'=>exact (ih g' d m fr' h' (by omega) (by omega) (by omega)).from g1 (by omega)
            | thrown=>exact Lgr.same g1 (by show _ ≤ h'.steps;omega) (by show h'.steps ≤ a;omega) (fun h2 x=>by cases x)
            | stuck=>exact Lgr.same g1 (by show _ ≤ h'.steps;omega) (by show h'.steps ≤ a;omega) (fun h2 x=>by injection x with x;cases x)
          | call k args fr' h' =>
            rw [hc] at hg
            obtain ⟨⟨g1,g2⟩,g3⟩:=hg
            simp only [Act.hp] at g1 g2
            simp only
            cases hall : allOf f.classes h' args (meAt f k).params
            · simp only [if_true]
              exact Lgr.same g1 (by show _ ≤ h'.steps;omega) (by show h'.steps ≤ a;omega) (fun h2 x=>by injection x with x;cases x)
            · have nf : ¬ (true = false):=by simp
              rw [if_neg nf,if_neg nf]
              by_cases hd : 20 ≤ d
              · rw [if_pos hd,if_pos hd]
                exact Lgr.same g1 (by show _ ≤ h'.steps;omega) (by show h'.steps ≤ a;omega) (fun h2 x=>by injection x with x;cases x)
              · rw [if_neg hd,if_neg hd]
                obtain ⟨⟨c1,c2,c3,c4,c5⟩,hin⟩:=ih g' (d + 1) (meAt f k) (M.enter (meAt f k) args) h' (by omega) (by omega) (by omega)
                rcases hin with ⟨heq,hne⟩ | ⟨hx,hx1,hx2,hx3,hx4⟩
                · rw [← heq]
                  cases hr : loop M f input a g (d + 1) (meAt f k) (M.enter (meAt f k) args) h' with
                  | stop e' h2 =>
                    rw [hr] at c1 c2 c3 hne
                    refine Lgr.same (g1.trans c1) ?_ c3 (fun h3 x=>?_)
                    · simp only [Res.hp] at c2 ⊢;omega
                    · injection x with x1 x2;subst x1;exact hne _ rfl
                  | ok v h2 =>
                    rw [hr] at c1 c2 c3
                    simp only [Res.hp] at c1 c2 c3
                    simp only
                    cases M.resume m (meAt f k) fr' v with
                    | none=>exact Lgr.same (g1.trans c1) (by show _ ≤ h2.steps;omega) c3 (fun h2 x=>by injection x with x;cases x)
                    | some fr2=>exact (ih g' d m fr2 h2 (by omega) (by omega) (by omega)).from (g1.trans c1) (by omega)
                  | thrown o h2 =>
                    rw [hr] at c1 c2 c3
                    simp only [Res.hp] at c1 c2 c3
                    simp only
                    cases after M f m fr' o h2 with
                    | go fr2=>exact (ih g' d m fr2 h2 (by omega) (by omega) (by omega)).from (g1.trans c1) (by omega)
                    | thrown=>exact Lgr.same (g1.trans c1) (by show _ ≤ h2.steps;omega) c3 (fun h2 x=>by cases x)
                    | stuck=>exact Lgr.same (g1.trans c1) (by show _ ≤ h2.steps;omega) c3 (fun h2 x=>by injection x with x;cases x)
                · rw [hx1]
                  rw [hx1] at c1 c2 c3
                  simp only [Res.hp] at c1 c2 c3
                  suffices hfin : ∀ r' : Res Vl,((loop M f input b g' (d + 1) (meAt f k) (M.enter (meAt f k) args) h').hp.out <+: r'.hp.out ∧ (loop M f input b g' (d + 1) (meAt f k) (M.enter (meAt f k) args) h').hp.steps ≤ r'.hp.steps) → Lgr a h (.stop 0 hx) r' by
                    cases hr : loop M f input b g' (d + 1) (meAt f k) (M.enter (meAt f k) args) h' with
                    | stop e' h2=>exact hfin _ (by rw [hr];exact ⟨List.prefix_rfl,Nat.le_refl _⟩)
                    | ok v h2 =>
                      simp only
                      cases M.resume m (meAt f k) fr' v with
                      | none=>exact hfin _ (by rw [hr];exact ⟨List.prefix_rfl,Nat.le_refl _⟩)
                      | some fr2=>exact hfin _ (by rw [hr];exact loop_grow M hM f input b g' d m fr2 h2)
                    | thrown o h2 =>
                      simp only
                      cases after M f m fr' o h2 with
                      | go fr2=>exact hfin _ (by rw [hr];exact loop_grow M hM f input b g' d m fr2 h2)
                      | thrown=>exact hfin _ (by rw [hr];exact ⟨List.prefix_rfl,Nat.le_refl _⟩)
                      | stuck=>exact hfin _ (by rw [hr];exact ⟨List.prefix_rfl,Nat.le_refl _⟩)
                  intro r' hr'
                  refine ⟨⟨g1.trans c1,by show h.steps ≤ hx.steps;omega,by show hx.steps ≤ a;omega,(g1.trans c4).trans hr'.1,by have:=hr'.2;omega⟩,.inr ⟨hx,rfl,hx2,hx3.trans hr'.1,by have:=hr'.2;omega⟩⟩
end Run
end Go.Proofs.Ytncmhenfgbcihab
namespace Go.Proofs.Ytncmhenfgbcihab
open Go.RowKit
set_option linter.unusedVariables false
set_option linter.unusedSimpArgs false
namespace Run
open D Num
def LongP (a b : Sh) (few : Int) : Prop:=(a.fin = 0 ∧ a.steps = few ∧ few ≤ b.steps ∧ a.out <+: b.out) ∨ (a.fin ≠ 0 ∧ a = b)
theorem shown_long {a : Nat} {h0 : Hp} {r r' : Res Vl} (h : Lgr a h0 r r') : LongP (shown r) (shown r') a:=by
  obtain ⟨_,h | h⟩:=h
  · obtain ⟨rfl,hne⟩:=h
    refine .inr ⟨?_,rfl⟩
    cases r with
    | ok v h=>simp [shown]
    | thrown o h=>simp [shown]
    | stop e h =>
      intro e0
      have : e = 0:=e0
      subst this
      exact hne h rfl
  · obtain ⟨h1,rfl,h2,h3,h4⟩:=h
    refine .inl ⟨rfl,by show (h1.steps : Int) = a;omega,?_,?_⟩
    · cases r' <;> (simp only [Res.hp] at h4;show (a : Int) ≤ ((_ : Nat) : Int);omega)
    · cases r' <;> exact h3
theorem call_longer {Fr : Type} (M : Mach Fr) (hM : ∀ f input m i fr h, ActG h (M.step f input m i fr h)) (f : Fi) (input : List Int) (a b : Nat) (hab : a ≤ b) (m : Me) (args : List Vl) :
    LongP (shown (call M f input a (a + 1) 0 m args ⟨[],[],0,0⟩)) (shown (call M f input b (b + 1) 0 m args ⟨[],[],0,0⟩)) a:=by
  unfold call
  cases hc : allOf f.classes ⟨[],[],0,0⟩ args m.params
  · rw [if_pos rfl,if_pos rfl];exact .inr ⟨by simp [shown],rfl⟩
  · have nf : ¬ (true = false):=by simp
    have nd : ¬ (20 ≤ 0):=by omega
    rw [if_neg nf,if_neg nf,if_neg nd,if_neg nd]
    exact shown_long (loop_longer M hM f input a b hab (a + 1) (b + 1) 1 m _ _ (by simp only;omega) (by simp only;omega) (by simp only;omega))
theorem play_longer {Fr : Type} (M : Mach Fr) (hM : ∀ f input m i fr h, ActG h (M.step f input m i fr h)) (f : Fi) (entry : Int) (args input : List Int) {few more : Int} (h0 : 0 ≤ few) (h1 : few ≤ more) (h2 : more ≤ 3000) :
    (play M f entry args input few).2 = (play M f entry args input more).2 ∧ ((play M f entry args input few).2 ≠ 0 → (play M f entry args input few).1 = Sh.nil) ∧ ((play M f entry args input few).2 = 0 → LongP (play M f entry args input few).1 (play M f entry args input more).1 few):=by
  have hb : begin_ f entry args input few = begin_ f entry args input more:=by
    unfold begin_
    by_cases q : entry < 0 ∨ (f.methods.length : Int) ≤ entry
    · rw [if_pos (by omega),if_pos (by omega)]
    · have e1 : (entry < 0 ∨ (f.methods.length : Int) ≤ entry ∨ few < 0 ∨ 60000 < few) ↔ (entry < 0 ∨ (f.methods.length : Int) ≤ entry ∨ more < 0 ∨ 60000 < more):=by omega
      simp only [e1]
  unfold play
  rw [← hb]
  by_cases q : begin_ f entry args input few = 0
  · rw [if_neg (by simpa using q),if_neg (by simpa using q)]
    refine ⟨rfl,fun h=>absurd rfl h,fun _=>?_⟩
    have:=call_longer M hM f input few.toNat more.toNat (by omega) (meAt f entry.toNat) (List.zipWith argOf (meAt f entry.toNat).params args)
    rwa [Int.toNat_of_nonneg h0] at this
  · rw [if_pos (by simpa using q),if_pos (by simpa using q)]
    exact ⟨rfl,fun _=>rfl,fun h=>absurd h q⟩
end Run
end Go.Proofs.Ytncmhenfgbcihab
namespace Go.Proofs.Ytncmhenfgbcihab
open Go.RowKit
set_option linter.unusedSimpArgs false
set_option linter.unusedVariables false
namespace Lo
open Num Rd D Run Mem HierW
def IS (w : World) (v : Value) (l : List Int) : Prop:=∃ (a : Option Addr) (cap : Nat),v = .slice a l.length cap ∧ l.length ≤ cap ∧ cap ≤ 9223372036854775807 ∧ ∀ i (h : i < l.length),∃ b o,a = some ⟨b,o,none⟩ ∧ w.cell? ⟨b,o + i,none⟩ = some (.int .i64 l[i])
theorem IS.below {w w' : World} {v : Value} {l : List Int} (h : IS w v l) (hb : Below w.heap.size w w') : IS w' v l:=by
  obtain ⟨a,cap,h1,h2,h3,h4⟩:=h
  refine ⟨a,cap,h1,h2,h3,fun i hi=>?_⟩
  obtain ⟨b,o,e,c⟩:=h4 i hi
  exact ⟨b,o,e,kept hb (cell_lt c) c⟩
theorem IS.of_row {w : World} {B : Nat} {v : Value} {l : List Int} (h : w.ownsRow B 2 1 v l.length (l.map (.int .i64 ·))) : IS w v l:=by
  by_cases h0 : 0 < l.length
  · obtain ⟨g,cap,hv,c1,c2,_,_⟩:=row_form h h0
    rw [hv] at h ⊢
    refine ⟨_,cap,rfl,c1,c2,fun i hi=>⟨g,0,rfl,?_⟩⟩
    rw [Nat.zero_add]
    exact row_cell h (by simp [hi])
  · have hl : l = []:=List.eq_nil_of_length_eq_zero (by omega)
    subst hl
    rcases h.2 with ⟨hn,_⟩ | ⟨g,cap',cur,hv',_,_,_,hm,_⟩
    · rw [hn];exact ⟨none,0,rfl,Nat.le_refl _,by omega,fun i hi=>absurd hi (by simp)⟩
    · rw [hv'];exact ⟨_,cap',rfl,Nat.zero_le _,by unfold maxLen at hm;exact hm,fun i hi=>absurd hi (by simp)⟩
def ShR (w : World) (s : Sh) (v : Value) : Prop:=∃ vo,v = .agg #[.int .i64 s.fin,.int .i64 s.value,.int .i64 s.cls,vo,.int .i64 s.used,.int .i64 s.steps] ∧ IS w vo s.out
theorem ShR.below {w w' : World} {s : Sh} {v : Value} (h : ShR w s v) (hb : Below w.heap.size w w') : ShR w' s v:=by
  obtain ⟨vo,e,h⟩:=h
  exact ⟨vo,e,h.below hb⟩
set_option maxRecDepth 100000 in
set_option maxHeartbeats 2000000 in
theorem begins {w : World} {a b : List Int} {va vb : Value} (ha : IS w va a) (hb : IS w vb b) (hp : b <+: a) : Calls Try.prog 65 #[va,vb] w fun e w'=>e = .returned (.bool true) ∧ Below w.heap.size w w':=by
  obtain ⟨aa,acap,rfl,a1,a2,ael⟩:=ha
  obtain ⟨ba,bcap,rfl,b1,b2,bel⟩:=hb
  have hle:=hp.length_le
  have hle1 : ¬ (a.length : Int) < b.length:=by omega
  have hle2 : ¬ (a.length < b.length):=by omega
  have heq : Hid (∀ i (h : i < b.length),∃ h2 : i < a.length,a[i] = b[i]):=fun i h=>⟨by omega,by
    obtain ⟨t,rfl⟩:=hp
    rw [List.getElem_append_left h]⟩
  have AEL:=Lib.hid ael
  have BEL:=Lib.hid bel
  clear ael bel hp
  go_enter Try.func65,Try.ntmps65
  go_wp2
  go_loopw [5] (fun i wr=>∃ n : Nat,i = .int .i64 n ∧ n ≤ b.length ∧ Below w.heap.size w wr) (fun i _=>b.length - (intOf i).toNat)
  case atStart=>exact ⟨0,rfl,Nat.zero_le _,by exact Rd.byB⟩
  case round =>
    obtain ⟨n,rfl,hn,hb⟩:=hrel
    by_cases hlt : n < b.length
    · obtain ⟨h2,he⟩:=heq.out n hlt
      obtain ⟨xb,xo,rfl,cx⟩:=AEL.out n h2
      obtain ⟨yb,yo,rfl,cy⟩:=BEL.out n hlt
      rw [he] at cx
      have cx':=kept hb (cell_lt cx) cx
      have cy':=kept hb (cell_lt cy) cy
      have l1:=cell_lt cx'
      have l2:=cell_lt cy'
      have hn1 : (n : Int) < b.length:=by omega
      have hn2 : (n : Int) < a.length:=by omega
      clear cx cy he
      go_wp2
      go_quiet (fail)
      go_wp2
      go_roundw
      case rel=>exact ⟨n + 1,by go_num,by omega,by exact Rd.byB⟩
      case measure=>simp [intOf];omega
    · obtain rfl : n = b.length:=by omega
      go_wp2
      go_ret
      exact ⟨rfl,hb⟩
set_option maxRecDepth 100000 in
set_option maxHeartbeats 2000000 in
theorem longer {w : World} {a b : Sh} {va vb : Value} {few : Int} (ha : ShR w a va) (hb : ShR w b vb) (h : LongP a b few) : Calls Try.prog 24 #[va,vb,.int .i64 few] w fun e w'=>e = .returned (.bool true) ∧ Below w.heap.size w w':=by
  obtain ⟨oa,rfl,ia⟩:=ha
  obtain ⟨ob,rfl,ib⟩:=hb
  obtain ⟨aa,acap,rfl,a1,a2,ael⟩:=id ia
  obtain ⟨ba,bcap,rfl,b1,b2,bel⟩:=id ib
  have IA:=Lib.hid ia
  have IB:=Lib.hid ib
  clear ia ib ael bel
  rcases h with ⟨h1,h2,h3,h4⟩ | ⟨h1,rfl⟩
  · have e1 : (a.fin == 0) = true:=by simpa using h1
    have e2 : (a.steps == few) = true:=by simpa using h2
    have H4:=Lib.hid h4
    clear h4 h1 h2
    go_enter Try.func24,Try.ntmps24
    go_wp2_with (go_at_call 65;refine (begins (IB.out.below (by exact Rd.byB)) (IA.out.below (by exact Rd.byB)) H4.out).mono ?_;rintro e w2 ⟨rfl,hb2⟩;have hbw : Below w.heap.size w w2:=Below.trans (by exact Rd.byB) (hb2.mono Rd.byL))
    go_ret
    exact ⟨rfl,hbw⟩
  · have e1 : (a.fin == 0) = false:=by simpa using h1
    have H4:=Lib.hid (List.prefix_refl a.out)
    clear h1
    have hself : ∀ x : Int,(x == x) = true:=fun x=>by simp
    go_enter Try.func24,Try.ntmps24
    go_wp2_with fail
    refine (begins (IA.out.below (by exact Rd.byB)) (IB.out.below (by exact Rd.byB)) H4.out).mono ?_
    rintro e w2 ⟨rfl,hb2⟩
    have y0 : w2.cell? ⟨w.heap.size,3,none⟩ = some (.slice aa a.out.length acap):=kept hb2 Rd.byL (by go_simp)
    have y1 : w2.cell? ⟨w.heap.size + 1,3,none⟩ = some (.slice ba a.out.length bcap):=kept hb2 Rd.byL (by go_simp)
    have hbw : Below w.heap.size w w2:=Below.trans (by exact Rd.byB) (hb2.mono Rd.byL)
    clear hb2
    go_wp2_with fail
    refine (begins (IB.out.below hbw) (IA.out.below hbw) H4.out).mono ?_
    rintro e w3 ⟨rfl,hb3⟩
    have hbw3:=hbw.trans (hb3.mono hbw.size)
    go_wp2
    go_ret
    exact ⟨rfl,hbw3⟩
end Lo
end Go.Proofs.Ytncmhenfgbcihab
namespace Go.Proofs.Ytncmhenfgbcihab
open Go.RowKit
set_option linter.unusedSimpArgs false
set_option linter.unusedVariables false
namespace Hpw
open Num Rd D Run Mem HierW Lo
section
theorem shR_of {w w' : World} {B : Nat} {s : Sh} {v : Value} (h : ShV w B s v) : ShR w s v:=by
  obtain ⟨vo,e,h⟩:=h
  exact ⟨vo,e,IS.of_row h⟩
theorem srun_longer (f : Fi) (entry : Int) (args input : List Int) {few more : Int} (h0 : 0 ≤ few) (h1 : few ≤ more) (h2 : more ≤ 3000) :
    (srunPlay f entry args input few).2 = (srunPlay f entry args input more).2 ∧ ((srunPlay f entry args input few).2 ≠ 0 → (srunPlay f entry args input few).1 = Sh.nil) ∧ ((srunPlay f entry args input few).2 = 0 → LongP (srunPlay f entry args input few).1 (srunPlay f entry args input more).1 few):=by
  unfold srunPlay
  by_cases q : Form.smay f = true
  · rw [if_pos q,if_pos q]
    exact play_longer SM (fun f input m i fr h=>sstep_g) f entry args input h0 h1 h2
  · rw [if_neg q,if_neg q]
    exact ⟨rfl,fun _=>rfl,fun h=>absurd h (by decide)⟩
set_option maxRecDepth 100000 in
set_option maxHeartbeats 4000000 in
theorem srunLonger (vf : Value) (f : Fi) (entry : Int) (va : Value) (args : List Int) (vi : Value) (input : List Int) (few more : Int) (w : World) (hf : VFi w w.heap.size vf f) (he : Ok entry) (ha : Sl 1 EInt w w.heap.size va args) (hi : Sl 1 EInt w w.heap.size vi input) (hfew : Ok few) (hmore : Ok more) :
    Calls Try.prog 8 #[vf,.int .i64 entry,va,vi,.int .i64 few,.int .i64 more] w fun e w'=>e = .returned (.bool true) ∧ Below w.heap.size w w':=by
  have HF:=Lib.hid hf
  have HA:=Lib.hid ha
  have HI:=Lib.hid hi
  obtain ⟨vc,vms,rfl,hc,hms⟩:=hf
  obtain ⟨ca,ccap,rfl,_⟩:=hc
  obtain ⟨ma,mcap,rfl,_⟩:=hms
  obtain ⟨aa,acap,rfl,_⟩:=ha
  obtain ⟨ia,icap,rfl,_⟩:=hi
  obtain ⟨n1,hn1⟩ : ∃ n,n = f.classes.length:=⟨_,rfl⟩
  obtain ⟨n2,hn2⟩ : ∃ n,n = f.methods.length:=⟨_,rfl⟩
  rw [← hn1,← hn2] at HF ⊢
  clear hn1 hn2 he hfew hmore
  by_cases q1 : few < 0
  · go_enter Try.func8,Try.ntmps8
    go_wp2
    go_ret
    exact ⟨rfl,by exact Rd.byB⟩
  by_cases q2 : more < few
  · go_enter Try.func8,Try.ntmps8
    go_wp2
    go_ret
    exact ⟨rfl,by exact Rd.byB⟩
  by_cases q3 : 3000 < more
  · go_enter Try.func8,Try.ntmps8
    go_wp2
    go_ret
    exact ⟨rfl,by exact Rd.byB⟩
  have HK:=Lib.hid (srun_longer f entry args input (few:=few) (more:=more) (by omega) (by omega) (by omega))
  obtain ⟨p,hp⟩ : ∃ p,Hid (srunPlay f entry args input few = p):=⟨_,Lib.hid rfl⟩
  obtain ⟨p2,hp2⟩ : ∃ p,Hid (srunPlay f entry args input more = p):=⟨_,Lib.hid rfl⟩
  rw [hp.out,hp2.out] at HK
  obtain ⟨s,c⟩:=p
  obtain ⟨s2,c2⟩:=p2
  obtain ⟨k1,k2,k3⟩:=HK.out
  simp only at k1 k2 k3
  subst k1
  replace k2:=Lib.hid k2
  replace k3:=Lib.hid k3
  clear HK
  go_enter Try.func8,Try.ntmps8
  go_wp2_with fail
  refine (srun (HF.out.mono (by exact Rd.byB) Rd.byL) (HI.out.mono mInt (by exact Rd.byB) Rd.byL) (HA.out.mono mInt (by exact Rd.byB) Rd.byL)).mono ?_
  rw [hp.out]
  rintro e w1 ⟨v1,rfl,hsh,hb1⟩
  have b0 : w1.cell? ⟨w.heap.size,0,none⟩ = some (.slice ca n1 ccap):=kept hb1 Rd.byL (by go_simp)
  have b1 : w1.cell? ⟨w.heap.size,1,none⟩ = some (.slice ma n2 mcap):=kept hb1 Rd.byL (by go_simp)
  have hbw : Below w.heap.size w w1:=Below.trans (by exact Rd.byB) (hb1.mono Rd.byL)
  have R1:=shR_of (w':=w1) hsh
  obtain ⟨vo,rfl,io⟩:=id R1
  obtain ⟨oa,ocap,rfl,_⟩:=id io
  have hsz:=hbw.size
  have lb:=cell_lt b0
  replace R1:=Lib.hid R1
  clear hb1 hsh io
  go_wp2_with fail
  refine (srun (HF.out.mono (hbw.trans (by exact Rd.byB)) (by simp;omega)) (HI.out.mono mInt (hbw.trans (by exact Rd.byB)) (by simp;omega)) (HA.out.mono mInt (hbw.trans (by exact Rd.byB)) (by simp;omega))).mono ?_
  rw [hp2.out]
  rintro e w2 ⟨v2,rfl,hsh,hb2⟩
  simp only at hsh
  have y0 : w2.cell? ⟨w1.heap.size,0,none⟩ = some (.int .i64 s.fin):=kept hb2 Rd.byL (by go_simp)
  have y1 : w2.cell? ⟨w1.heap.size,1,none⟩ = some (.int .i64 s.value):=kept hb2 Rd.byL (by go_simp)
  have y2 : w2.cell? ⟨w1.heap.size,2,none⟩ = some (.int .i64 s.cls):=kept hb2 Rd.byL (by go_simp)
  have y3 : w2.cell? ⟨w1.heap.size,3,none⟩ = some (.slice oa s.out.length ocap):=kept hb2 Rd.byL (by go_simp)
  have y4 : w2.cell? ⟨w1.heap.size,4,none⟩ = some (.int .i64 s.used):=kept hb2 Rd.byL (by go_simp)
  have y5 : w2.cell? ⟨w1.heap.size,5,none⟩ = some (.int .i64 s.steps):=kept hb2 Rd.byL (by go_simp)
  have hb12 : Below w1.heap.size w1 w2:=Below.trans (by exact Rd.byB) (hb2.mono Rd.byL)
  have hbw2:=hbw.trans (hb12.mono hsz)
  have R2:=shR_of (w':=w2) hsh
  obtain ⟨vo2,rfl,io2⟩:=id R2
  obtain ⟨oa2,ocap2,rfl,_⟩:=id io2
  have hsz2:=hbw2.size
  have ly:=cell_lt y0
  have HB12:=Lib.hid hb12
  replace R2:=Lib.hid R2
  clear hb2 hsh io2 hb12
  by_cases qc : c = 0
  · have qb : (c != 0) = false:=by simpa using qc
    have qb2 : (c == 0) = true:=by simpa using qc
    have L0:=Lib.hid (k3.out qc)
    clear qc
    go_wp2_with fail
    refine (longer (R1.out.below (HB12.out.trans (by exact Rd.byB))) (R2.out.below (by exact Rd.byB)) L0.out).mono ?_
    rintro e w3 ⟨rfl,hb3⟩
    have hbw3 : Below w.heap.size w w3:=hbw2.trans (Below.trans (by exact Rd.byB) (hb3.mono Rd.byL))
    clear hb3
    go_wp2
    go_ret
    exact ⟨rfl,hbw3⟩
  · have qb : (c != 0) = true:=by simpa using qc
    have es:=k2.out qc
    have e0 : s.steps = 0:=by rw [es];rfl
    rw [e0] at y5
    have qself : (c == c) = true:=by simp
    go_wp2_with fail
    go_ret
    exact ⟨rfl,by exact Rd.byB⟩
end
end Hpw
end Go.Proofs.Ytncmhenfgbcihab
