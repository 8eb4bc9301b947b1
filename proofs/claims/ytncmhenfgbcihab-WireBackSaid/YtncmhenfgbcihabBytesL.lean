/- Files as bytes, plain: a file that may be has few; its form; the two forms apart. -/
import Derived.Test.YtncmhenfgbcihabBytes
import Derived.Test.YtncmhenfgbcihabRform
namespace Go.Proofs.Ytncmhenfgbcihab
open Go.RowKit
namespace Bytes
open D Num

theorem flat_len {α : Type} (e : α → List UInt8) (n : Nat) : ∀ l : List α, (∀ x ∈ l, (e x).length ≤ n) → (l.flatMap e).length ≤ l.length * n := by
  intro l
  induction l with
  | nil => intro _; simp
  | cons a l ih =>
    intro h
    have h1 := h a (by simp)
    have h2 := ih (fun x hx => h x (by simp [hx]))
    simp only [List.flatMap_cons, List.length_append, List.length_cons, Nat.add_mul]; omega
theorem lst_len {α : Type} (e : α → List UInt8) (n m : Nat) (l : List α) (hl : l.length ≤ m) (h : ∀ x ∈ l, (e x).length ≤ n) : (lst e l).length ≤ 8 + m * n := by
  have h1 := flat_len e n l h
  have h2 : l.length * n ≤ m * n := Nat.mul_le_mul_right n hl
  rw [lst, List.length_append, wide_len]; omega

/-- the form: 1 on a stack, 2 on registers, 0 of none -/
def form (f : Fi) : Int := if Form.smay f then 1 else if Rform.rmay f then 2 else 0

theorem head_bounds {nc : Int} {m : Me} {most : Int} (h : Form.head nc m most = true) : m.params.length ≤ 4 ∧ (m.code.length : Int) ≤ most ∧ m.handlers.length ≤ 8 := by
  simp only [Form.head, Form.rng, Bool.and_eq_true, decide_eq_true_eq] at h
  obtain ⟨⟨⟨⟨⟨_, _⟩, h1⟩, _⟩, h2⟩, h3⟩ := h
  exact ⟨h1, by omega, h3⟩

theorem may_bounds {l : List Cls} (h : Hier.may l = true) : l.length ≤ 12 ∧ ∀ c ∈ l, c.fields.length ≤ 6 := by
  have := (Hier.may_iff l).1 h
  obtain ⟨h1, h2⟩ := this
  refine ⟨by omega, fun c hc => ?_⟩
  obtain ⟨j, hj, rfl⟩ := List.getElem_of_mem hc
  have h3 := h2 j hj
  simp only [Hier.cls, Bool.and_eq_true, decide_eq_true_eq] at h3
  exact h3.1.2

theorem args_len {f : Fi} (hp : ∀ m ∈ f.methods, m.params.length ≤ 4) (m : Me) (i : Ins) (h : Rform.ins f m i = true) : i.args.length ≤ 4 := by
  simp only [Rform.ins, Bool.and_eq_true, Bool.or_eq_true, decide_eq_true_eq] at h
  obtain ⟨⟨h1 | h1, h2⟩, _⟩ := h
  · rw [Rform.body, h1] at h2
    simp only [show ¬ (18 : Int) = 1 by decide, show ¬ ((18 : Int) = 2 ∨ (18 : Int) = 24) by decide, show ¬ ((18 : Int) = 3 ∨ (18 : Int) = 21 ∨ (18 : Int) = 22) by decide, show ¬ (18 : Int) = 4 by decide, show ¬ (18 : Int) = 5 by decide, show ¬ (18 : Int) = 6 by decide, show ¬ (18 : Int) = 7 by decide, show ¬ (18 : Int) = 8 by decide, show ¬ (18 : Int) = 9 by decide, show ¬ (18 : Int) = 10 by decide, show ¬ (18 : Int) = 11 by decide, show ¬ (18 : Int) = 12 by decide, show ¬ ((18 : Int) = 13 ∨ (18 : Int) = 16) by decide, show ¬ ((18 : Int) = 14 ∨ (18 : Int) = 15) by decide, show ¬ (18 : Int) = 17 by decide, if_false, if_true, Bool.and_eq_true, decide_eq_true_eq] at h2
    rw [h2.1.1.1.2]
    unfold Rform.mAt
    rw [List.getD_eq_getElem?_getD]
    cases hx : (f.methods.map (·.params))[i.a.toNat]? with
    | none => simp
    | some p =>
      simp only [Option.getD_some]
      have := List.mem_of_getElem? hx
      obtain ⟨m', hm', rfl⟩ := List.mem_map.1 this
      exact hp m' hm'
  · omega

theorem me_len {m : Me} (hp : m.params.length ≤ 4) (hc : m.code.length ≤ 2400) (hh : m.handlers.length ≤ 8) (ha : ∀ i ∈ m.code, i.args.length ≤ 4) : (meB m).length ≤ 200000 := by
  have h1 := lst_len tyB 16 4 m.params hp (fun x _ => by simp [tyB, wide_len])
  have h2 := lst_len insB 80 2400 m.code hc (fun x hx => by
    have := lst_len wide 8 4 x.args (ha x hx) (fun y _ => by simp [wide_len])
    simp only [insB, List.length_append, wide_len]; omega)
  have h3 := lst_len hdB 32 8 m.handlers hh (fun x _ => by simp [hdB, wide_len])
  simp only [meB, tyB, List.length_append, wide_len]; omega
theorem cl_len {c : Cls} (h : c.fields.length ≤ 6) : (clB c).length ≤ 112 := by
  have h1 := lst_len tyB 16 6 c.fields h (fun x _ => by simp [tyB, wide_len])
  simp only [clB, List.length_append, wide_len]; omega

theorem fi_len {f : Fi} (h : form f ≠ 0) : (fiB f).length ≤ 2000000 := by
  have key : Hier.may f.classes = true ∧ f.methods.length ≤ 8 ∧ ∀ m ∈ f.methods, (meB m).length ≤ 200000 := by
    unfold form at h
    by_cases h1 : Form.smay f = true
    · simp only [Form.smay, Bool.and_eq_true, Form.rng, decide_eq_true_eq, List.all_eq_true] at h1
      obtain ⟨⟨a, b⟩, c⟩ := h1
      refine ⟨a, by omega, fun m hm => ?_⟩
      have h2 := c m hm
      simp only [Form.sme, Bool.and_eq_true, List.all_eq_true] at h2
      obtain ⟨⟨⟨⟨hh, _⟩, _⟩, _⟩, hi⟩ := h2
      obtain ⟨p, q, r⟩ := head_bounds hh
      exact me_len p (by omega) r (fun i hi' => by
        have := hi i hi'
        simp only [Form.sins, Bool.and_eq_true, decide_eq_true_eq] at this
        omega)
    · rw [if_neg h1] at h
      by_cases h2 : Rform.rmay f = true
      · simp only [Rform.rmay, Bool.and_eq_true, Form.rng, decide_eq_true_eq, List.all_eq_true] at h2
        obtain ⟨⟨a, b⟩, c⟩ := h2
        have hb : ∀ m ∈ f.methods, m.params.length ≤ 4 ∧ (m.code.length : Int) ≤ 2400 ∧ m.handlers.length ≤ 8 := fun m hm => by
          have h3 := c m hm
          simp only [Rform.rme, Bool.and_eq_true] at h3
          exact head_bounds h3.1.1.1.1
        refine ⟨a, by omega, fun m hm => ?_⟩
        obtain ⟨p, q, r⟩ := hb m hm
        have h3 := c m hm
        simp only [Rform.rme, Bool.and_eq_true, List.all_eq_true] at h3
        exact me_len p (by omega) r (fun i hi => args_len (fun m' hm' => (hb m' hm').1) m i (h3.2 i hi))
      · rw [if_neg h2] at h; exact absurd rfl h
  obtain ⟨h1, h2, h3⟩ := key
  obtain ⟨h4, h5⟩ := may_bounds h1
  have a := lst_len clB 112 12 f.classes h4 (fun c hc => cl_len (h5 c hc))
  have b := lst_len meB 200000 8 f.methods h2 h3
  simp only [fiB, List.length_append]; omega

/-- no file is of both forms -/
theorem apart (f : Fi) (h : Form.smay f = true) : Rform.rmay f = false := by
  simp only [Form.smay, Bool.and_eq_true, Form.rng, decide_eq_true_eq, List.all_eq_true] at h
  obtain ⟨⟨_, b⟩, c⟩ := h
  match hm : f.methods with
  | [] => rw [hm] at b; simp at b
  | m :: l =>
    have h1 := c m (by rw [hm]; simp)
    simp only [Form.sme, Bool.and_eq_true, decide_eq_true_eq] at h1
    have h2 : Rform.rme f m = false := by
      have : m.regs = 0 := h1.1.1.1.2
      simp only [Rform.rme, this, Form.rng]
      rw [show decide ((max 1 (Form.slots m.params : Int)) ≤ 0 ∧ (0 : Int) < 91) = false by rw [decide_eq_false_iff_not]; omega]
      simp
    simp [Rform.rmay, hm, h2]
end Bytes
end Go.Proofs.Ytncmhenfgbcihab
