/- Bytes, plain: reading as the reference reads: to the end, whatever comes. -/
import Derived.Test.YtncmhenfgbcihaaBytesL
namespace Go.Proofs.Ytncmhenfgbcihaa
open Go.RowKit
namespace Bytes
open D Num

/-- what is left to read; none: it has failed -/
abbrev S := Option (List UInt8)
def rdT : S → Int × S
  | none => (0, none)
  | some rs => if rs.length < 8 then (0, none) else (val (rs.take 8), some (rs.drop 8))
def manyT (s : S) : Int × S := if (rdT s).1 < 0 then ((rdT s).1, none) else rdT s
def listT {α : Type} (p : S → α × S) : Nat → S → List α × S
  | 0, s => ([], s)
  | _ + 1, none => ([], none)
  | n + 1, some rs => ((p (some rs)).1 :: (listT p n (p (some rs)).2).1, (listT p n (p (some rs)).2).2)
def lstT {α : Type} (p : S → α × S) (s : S) : List α × S := listT p (manyT s).1.toNat (manyT s).2
def tyT (s : S) : Ty × S := (⟨(rdT s).1, (rdT (rdT s).2).1⟩, (rdT (rdT s).2).2)
def clT (s : S) : Cls × S := (⟨(rdT s).1, (lstT tyT (rdT s).2).1⟩, (lstT tyT (rdT s).2).2)
def hdT (s : S) : Hd × S :=
  let a := rdT s; let b := rdT a.2; let c := rdT b.2; let d := rdT c.2
  (⟨a.1, b.1, c.1, d.1⟩, d.2)
def insT (s : S) : Ins × S :=
  let o := rdT s; let a := rdT o.2; let b := rdT a.2; let c := rdT b.2; let n := rdT c.2; let l := lstT rdT n.2
  (⟨o.1, a.1, b.1, c.1, n.1, l.1⟩, l.2)
def meT (s : S) : Me × S :=
  let p := lstT tyT s; let r := tyT p.2; let t := rdT r.2; let l := rdT t.2; let g := rdT l.2; let c := lstT insT g.2; let h := lstT hdT c.2
  (⟨p.1, r.1, t.1, l.1, g.1, c.1, h.1⟩, h.2)
def fiT (s : S) : Fi × S := (⟨(lstT clT s).1, (lstT meT (lstT clT s).2).1⟩, (lstT meT (lstT clT s).2).2)

/-- reads as p does, and has failed where p does -/
def Tot {α : Type} (t : S → α × S) (p : P α) : Prop := (∀ bs x r, p bs = some (x, r) → t (some bs) = (x, some r)) ∧ (∀ bs, p bs = none → (t (some bs)).2 = none) ∧ (t none).2 = none

theorem tot_rd : Tot rdT rd := by
  refine ⟨fun bs x r h => ?_, fun bs h => ?_, rfl⟩
  · unfold rd at h; simp only [rdT]
    split at h
    · simp at h
    · rename_i hn; rw [if_neg hn]; injection h with h; injection h with h1 h2; rw [h1, h2]
  · unfold rd at h; simp only [rdT]
    split at h
    · rename_i hn; rw [if_pos hn]
    · simp at h
theorem listT_none {α : Type} (t : S → α × S) (n : Nat) : (listT t n none).2 = none := by cases n <;> rfl
theorem tot_rep {α : Type} {t : S → α × S} {p : P α} (h : Tot t p) : ∀ (n : Nat), Tot (listT t n) (rep p n) := by
  intro n
  induction n with
  | zero => exact ⟨fun bs x r h => by simp only [rep, ret] at h; injection h with h; injection h with h1 h2; subst h1; subst h2; rfl, fun bs h => by simp [rep, ret] at h, rfl⟩
  | succ n ih =>
    refine ⟨fun bs l r hr => ?_, fun bs hr => ?_, rfl⟩
    · simp only [rep] at hr
      obtain ⟨x, r1, h1, h2⟩ := Bytes.bind_some hr
      obtain ⟨l', r', h3, h4⟩ := Bytes.bind_some h2
      simp only [ret] at h4
      injection h4 with h4; injection h4 with h4 h5; subst h4; subst h5
      simp only [listT, h.1 _ _ _ h1, ih.1 _ _ _ h3]
    · simp only [rep] at hr
      simp only [listT]
      cases hp : p bs with
      | none => rw [h.2.1 _ hp]; exact listT_none _ _
      | some y =>
        obtain ⟨x, r1⟩ := y
        rw [bind_of hp] at hr
        rw [h.1 _ _ _ hp]
        refine ih.2.1 _ ?_
        cases hq : rep p n r1 with
        | none => rfl
        | some z => obtain ⟨l, r⟩ := z; rw [bind_of hq] at hr; simp [ret] at hr
theorem tot_lst {α : Type} {t : S → α × S} {p : P α} (h : Tot t p) : Tot (lstT t) (lstP p) := by
  refine ⟨fun bs l r hr => ?_, fun bs hr => ?_, ?_⟩
  · obtain ⟨n, r1, h1, h2⟩ := Bytes.bind_some hr
    have hrd := tot_rd.1 _ _ _ h1
    split at h2
    · simp at h2
    · rename_i hn
      simp only [lstT, manyT, hrd, if_neg hn]
      exact (tot_rep h _).1 _ _ _ h2
  · cases h1 : rd bs with
    | none =>
      have := tot_rd.2.1 _ h1
      unfold lstT manyT
      split
      · exact listT_none _ _
      · rw [this]; exact listT_none _ _
    | some y =>
      obtain ⟨n, r1⟩ := y
      have hrd := tot_rd.1 _ _ _ h1
      rw [lstP, bind_of h1] at hr
      by_cases hn : n < 0
      · simp only [lstT, manyT, hrd, if_pos hn]; exact listT_none _ _
      · rw [if_neg hn] at hr
        simp only [lstT, manyT, hrd, if_neg hn]
        exact (tot_rep h _).2.1 _ hr
  · show (listT t (manyT none).1.toNat (manyT none).2).2 = none
    rfl
/-- one behind another one -/
theorem tot_bind {α β γ : Type} {t : S → α × S} {p : P α} {u : S → β × S} {q : P β} {f : α → β → γ} (h : Tot t p) (k : Tot u q) : Tot (fun s => (f (t s).1 (u (t s).2).1, (u (t s).2).2)) (bind p fun x => bind q fun y => ret (f x y)) := by
  refine ⟨fun bs z r hr => ?_, fun bs hr => ?_, ?_⟩
  · obtain ⟨x, r1, h1, h2⟩ := Bytes.bind_some hr
    obtain ⟨y, r2, h3, h4⟩ := Bytes.bind_some h2
    simp only [ret] at h4
    injection h4 with h4; injection h4 with h4 h5; subst h4; subst h5
    simp only [h.1 _ _ _ h1, k.1 _ _ _ h3]
  · cases h1 : p bs with
    | none => simp only [h.2.1 _ h1]; exact k.2.2
    | some y =>
      obtain ⟨x, r1⟩ := y
      rw [bind_of h1] at hr
      simp only [h.1 _ _ _ h1]
      cases h2 : q r1 with
      | none => exact k.2.1 _ h2
      | some z => obtain ⟨y, r2⟩ := z; rw [bind_of h2] at hr; simp [ret] at hr
  · simp only [h.2.2, k.2.2]
theorem bind_assoc {α β γ : Type} (p : P α) (q : α → P β) (r : β → P γ) : bind (bind p q) r = bind p fun x => bind (q x) r := by
  funext bs
  simp only [bind]
  cases p bs with
  | none => rfl
  | some y => rfl
theorem bind_ret {α β : Type} (x : α) (q : α → P β) : bind (ret x) q = q x := rfl
theorem tot_ty : Tot tyT tyP := tot_bind (f := fun (k c : Int) => (⟨k, c⟩ : Ty)) tot_rd tot_rd
theorem tot_cl : Tot clT clP := tot_bind (f := fun (s : Int) (l : List Ty) => (⟨s, l⟩ : Cls)) tot_rd (tot_lst tot_ty)
theorem tot_hd : Tot hdT hdP := by
  have h := tot_bind (f := fun (x : Int × Int) (y : Int × Int) => (⟨x.1, x.2, y.1, y.2⟩ : Hd)) (tot_bind (f := fun a b => (a, b)) tot_rd tot_rd) (tot_bind (f := fun a b => (a, b)) tot_rd tot_rd)
  have e : hdP = bind (bind rd fun a => bind rd fun b => ret (a, b)) fun x => bind (bind rd fun a => bind rd fun b => ret (a, b)) fun y => ret ⟨x.1, x.2, y.1, y.2⟩ := by
    simp only [bind_assoc, bind_ret]; rfl
  rw [e]; exact h
theorem tot_ins : Tot insT insP := by
  have h2 := tot_bind (f := fun (a b : Int) => (a, b)) tot_rd tot_rd
  have h4 := tot_bind (f := fun (x y : Int × Int) => (x, y)) h2 h2
  have h6 := tot_bind (f := fun (a : Int) (l : List Int) => (a, l)) tot_rd (tot_lst tot_rd)
  have h := tot_bind (f := fun (x : (Int × Int) × (Int × Int)) (y : Int × List Int) => (⟨x.1.1, x.1.2, x.2.1, x.2.2, y.1, y.2⟩ : Ins)) h4 h6
  simp only [bind_assoc, bind_ret] at h
  exact h
theorem tot_me : Tot meT meP := by
  have h1 := tot_bind (f := fun (a : List Ty) (b : Ty) => (a, b)) (tot_lst tot_ty) tot_ty
  have h2 := tot_bind (f := fun (a b : Int) => (a, b)) tot_rd tot_rd
  have h3 := tot_bind (f := fun (a : Int × Int) (b : Int) => (a, b)) h2 tot_rd
  have h4 := tot_bind (f := fun (a : List Ins) (b : List Hd) => (a, b)) (tot_lst tot_ins) (tot_lst tot_hd)
  have h5 := tot_bind (f := fun (x : (Int × Int) × Int) (y : List Ins × List Hd) => (x, y)) h3 h4
  have h := tot_bind (f := fun (x : List Ty × Ty) (y : ((Int × Int) × Int) × (List Ins × List Hd)) => (⟨x.1, x.2, y.1.1.1, y.1.1.2, y.1.2, y.2.1, y.2.2⟩ : Me)) h1 h5
  simp only [bind_assoc, bind_ret] at h
  exact h
theorem tot_fi : Tot fiT fiP := tot_bind (f := fun (c : List Cls) (m : List Me) => (⟨c, m⟩ : Fi)) (tot_lst tot_cl) (tot_lst tot_me)

/-- how a list goes on, behind k of its items -/
theorem listT_step {α : Type} {t : S → α × S} {m : Nat} {acc : List α} {rs : List UInt8} {L : List α × S} (h : L = (acc ++ (listT t (m + 1) (some rs)).1, (listT t (m + 1) (some rs)).2)) : L = ((acc ++ [(t (some rs)).1]) ++ (listT t m (t (some rs)).2).1, (listT t m (t (some rs)).2).2) := by
  rw [h]; simp [listT]
theorem listT_stop {α : Type} {t : S → α × S} {m : Nat} {acc : List α} {s : S} {L : List α × S} (h : L = (acc ++ (listT t m s).1, (listT t m s).2)) (hs : m = 0 ∨ s = none) : L = (acc, s) := by
  rw [h]
  rcases hs with rfl | rfl
  · simp [listT]
  · cases m <;> simp [listT]
/-- what is left is less, by eight bytes at least, or it has failed -/
def EatsT {α : Type} (t : S → α × S) : Prop := ∀ rs r, (t (some rs)).2 = some r → r.length + 8 ≤ rs.length
def Lessens {α : Type} (t : S → α × S) : Prop := (∀ rs r, (t (some rs)).2 = some r → r.length ≤ rs.length) ∧ (t none).2 = none
theorem eatsT_of {α : Type} {t : S → α × S} {p : P α} (h : Tot t p) {e : α → List UInt8} {ok : α → Prop} (hw : Wrote p e ok) (he : ∀ x, 8 ≤ (e x).length) : EatsT t := fun rs r hr => by
  cases hp : p rs with
  | none => rw [h.2.1 _ hp] at hr; cases hr
  | some y =>
    obtain ⟨x, r1⟩ := y
    rw [h.1 _ _ _ hp] at hr
    injection hr with hr; subst hr
    obtain ⟨e1, _⟩ := hw _ _ _ hp
    rw [e1, List.length_append]; have := he x; omega
end Bytes
end Go.Proofs.Ytncmhenfgbcihaa
