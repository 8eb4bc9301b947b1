/- Classes, plain: which may be, what is below what, and the greatest that both are below: as hier computes it, and as its reference. -/
import Derived.Test.YtncmhenfgbcihabRd
namespace Go.Proofs.Ytncmhenfgbcihab
namespace Hier
open D Num

/-- may a type be that of a value (of so many classes)? -/
def ty (n : Int) (t : Ty) : Bool := if t.kind = 1 ∨ t.kind = 2 then decide (t.cls = 0) else if t.kind = 3 then decide (0 ≤ t.cls ∧ t.cls < n) else false

def nil : Cls := ⟨0, []⟩
def at' (l : List Cls) (i : Nat) : Cls := l.getD i nil

def supOk (i : Nat) (s : Int) : Bool := if i = 0 then decide (s = -1) else decide (0 ≤ s ∧ s < i)
/-- may a class stand at a place? -/
def cls (n : Int) (i : Nat) (c : Cls) : Bool := supOk i c.sup && decide (c.fields.length ≤ 6) && c.fields.all (ty n)

def may (l : List Cls) : Bool := decide (4 ≤ l.length ∧ l.length ≤ 12) && (List.range l.length).all fun i => cls l.length i (at' l i)

theorem at_eq {l : List Cls} {i : Nat} (h : i < l.length) : at' l i = l[i] := by simp [at', h]

theorem may_iff (l : List Cls) : may l = true ↔ (4 ≤ l.length ∧ l.length ≤ 12) ∧ ∀ i (h : i < l.length), cls l.length i l[i] = true := by
  unfold may
  rw [Bool.and_eq_true, decide_eq_true_eq, List.all_eq_true]
  constructor
  · rintro ⟨h1, h2⟩
    exact ⟨h1, fun i h => by rw [← at_eq h]; exact h2 i (by simpa using h)⟩
  · rintro ⟨h1, h2⟩
    exact ⟨h1, fun i h => by have h' : i < l.length := by simpa using h
                             rw [at_eq h']; exact h2 i h'⟩
theorem may_false_len {l : List Cls} (h : ¬ (4 ≤ l.length ∧ l.length ≤ 12)) : may l = false := by
  rw [Bool.eq_false_iff]; intro h'; exact h ((may_iff l).1 h').1
theorem may_false_at {l : List Cls} {i : Nat} (h : i < l.length) (hc : cls l.length i l[i] = false) : may l = false := by
  rw [Bool.eq_false_iff]; intro h'; rw [((may_iff l).1 h').2 i h] at hc; cases hc

/-- the class above -/
def sup (l : List Cls) (c : Int) : Int := (at' l c.toNat).sup

/-- of classes that may be: above is less -/
def Wf (l : List Cls) : Prop := ∀ i : Nat, i < l.length → -1 ≤ (at' l i).sup ∧ (at' l i).sup < i

theorem wf_of_may {l : List Cls} (h : may l = true) : Wf l := by
  intro i hi
  have := ((may_iff l).1 h).2 i hi
  rw [at_eq hi]
  simp only [cls, supOk, Bool.and_eq_true] at this
  obtain ⟨⟨h1, _⟩, _⟩ := this
  split at h1 <;> simp only [decide_eq_true_eq] at h1 <;> omega
theorem sup_zero {l : List Cls} (h : may l = true) : sup l 0 = -1 := by
  obtain ⟨⟨h1, _⟩, h2⟩ := (may_iff l).1 h
  have := h2 0 (by omega)
  simp only [cls, supOk, Bool.and_eq_true] at this
  rw [sup, show (0 : Int).toNat = 0 by rfl, at_eq (by omega)]
  simpa using this.1.1
theorem sup_ge {l : List Cls} (h : may l = true) {c : Int} (h0 : 0 < c) (hc : c < l.length) : 0 ≤ sup l c ∧ sup l c < c := by
  obtain ⟨_, h2⟩ := (may_iff l).1 h
  have := h2 c.toNat (by omega)
  simp only [cls, supOk, Bool.and_eq_true] at this
  rw [sup, at_eq (by omega)]
  have := this.1.1
  rw [if_neg (by omega), decide_eq_true_eq] at this
  omega

/-- a class and those above it -/
def upN : Nat → List Cls → Int → List Int
  | 0, _, _ => []
  | k + 1, l, c => if 0 ≤ c ∧ c < l.length then c :: upN k l (sup l c) else []
def up (l : List Cls) (c : Int) : List Int := upN (l.length + 1) l c

theorem upN_more {l : List Cls} (hw : Wf l) : ∀ (k m : Nat) (c : Int), c < k → c < m → upN k l c = upN m l c := by
  intro k
  induction k with
  | zero =>
    intro m c h1 h2
    cases m with
    | zero => rfl
    | succ m => rw [upN, upN, if_neg (by omega)]
  | succ k ih =>
    intro m c h1 h2
    cases m with
    | zero => rw [upN, upN, if_neg (by omega)]
    | succ m =>
      rw [upN, upN]
      split
      · rename_i h
        have := hw c.toNat (by omega)
        rw [ih m (sup l c) (by unfold sup; omega) (by unfold sup; omega)]
      · rfl
theorem up_out {l : List Cls} {c : Int} (h : ¬ (0 ≤ c ∧ c < l.length)) : up l c = [] := by
  rw [up, upN, if_neg h]
theorem up_in {l : List Cls} (hw : Wf l) {c : Int} (h : 0 ≤ c ∧ c < l.length) : up l c = c :: up l (sup l c) := by
  have := hw c.toNat (by omega)
  rw [up, upN, if_pos h]
  congr 1
  exact upN_more hw _ _ _ (by unfold sup; omega) (by unfold sup; omega)
theorem up_len {l : List Cls} (c : Int) : (up l c).length ≤ l.length + 1 := by
  unfold up
  have : ∀ (k : Nat) (c : Int), (upN k l c).length ≤ k := by
    intro k
    induction k with
    | zero => intro c; simp [upN]
    | succ k ih => intro c; rw [upN]; split <;> simp; exact ih _
  exact this _ _

/-- is the one below the other? -/
def is (l : List Cls) (c d : Int) : Bool := (up l c).contains d
/-- the first of those above c that d is below -/
def meet (l : List Cls) (c d : Int) : Int := ((up l c).find? fun x => is l d x).getD (-1)
def below (l : List Cls) (c d : Int) : Bool := may l && is l c d
def join (l : List Cls) (c d : Int) : Int := if may l = false ∨ c < 0 ∨ d < 0 ∨ (l.length : Int) ≤ c ∨ (l.length : Int) ≤ d then -1 else meet l c d

theorem is_out {l : List Cls} {c d : Int} (h : ¬ (0 ≤ c ∧ c < l.length)) : is l c d = false := by rw [is, up_out h]; rfl
theorem is_in {l : List Cls} (hw : Wf l) {c d : Int} (h : 0 ≤ c ∧ c < l.length) : is l c d = (decide (d = c) || is l (sup l c) d) := by
  rw [is, up_in hw h, List.contains_cons, is]
  congr 1

/-- the reference's loop -/
def refN : Nat → List Cls → Int → Int → Int
  | 0, _, c, _ => c
  | k + 1, l, c, d => if d < c then refN k l (sup l c) d else c
def refBelow (l : List Cls) (c d : Int) : Bool := if c < 0 ∨ d < 0 ∨ (l.length : Int) ≤ c ∨ (l.length : Int) ≤ d then false else decide (refN (c.toNat + 1) l c d = d)

theorem is_le {l : List Cls} (hw : Wf l) : ∀ (k : Nat) (c d : Int), c < k → is l c d = true → 0 ≤ d ∧ d ≤ c := by
  intro k
  induction k with
  | zero => intro c d h1 h2; rw [is_out (by omega)] at h2; cases h2
  | succ k ih =>
    intro c d h1 h2
    by_cases h : 0 ≤ c ∧ c < l.length
    · rw [is_in hw h, Bool.or_eq_true, decide_eq_true_eq] at h2
      have := hw c.toNat (by omega)
      rcases h2 with h2 | h2
      · omega
      · have := ih (sup l c) d (by unfold sup; omega) h2
        unfold sup at this; omega
    · rw [is_out h] at h2; cases h2
theorem is_le' {l : List Cls} (hw : Wf l) {c d : Int} (h : is l c d = true) : 0 ≤ d ∧ d ≤ c := is_le hw (c.toNat + 1) c d (by omega) h
theorem is_lt {l : List Cls} {c d : Int} (h : is l c d = true) : 0 ≤ c ∧ c < l.length := by
  by_cases h' : 0 ≤ c ∧ c < l.length
  · exact h'
  · rw [is_out h'] at h; cases h

theorem refN_eq {l : List Cls} (hw : Wf l) : ∀ (k : Nat) (c d : Int), c < k → 0 ≤ d → c < l.length → decide (refN k l c d = d) = is l c d := by
  intro k
  induction k with
  | zero => intro c d h1 h2 _; rw [is_out (by omega), refN, decide_eq_false (by omega)]
  | succ k ih =>
    intro c d h1 h2 h3
    rw [refN]
    by_cases hlt : d < c
    · rw [if_pos hlt, is_in hw (by omega), show decide (d = c) = false from decide_eq_false (by omega), Bool.false_or]
      have := hw c.toNat (by omega)
      exact ih _ _ (by unfold sup; omega) h2 (by unfold sup; omega)
    · rw [if_neg hlt]
      by_cases h0 : 0 ≤ c
      · rw [is_in hw (by omega)]
        by_cases e : d = c
        · subst e; simp
        · rw [decide_eq_false (by omega), decide_eq_false e, Bool.false_or]
          cases hi : is l (sup l c) d with
          | false => rfl
          | true =>
            have := is_le' hw hi
            have := hw c.toNat (by omega)
            unfold sup at *; omega
      · rw [is_out (by omega), decide_eq_false (by omega)]
theorem refBelow_eq {l : List Cls} (hw : Wf l) (c d : Int) : refBelow l c d = is l c d := by
  unfold refBelow
  split
  · rename_i h
    cases hi : is l c d with
    | false => rfl
    | true =>
      have h1 := is_lt hi
      have h2 := is_le' hw hi
      omega
  · exact refN_eq hw _ _ _ (by omega) (by omega) (by omega)

/-- the reference's loop downwards -/
def refJN (l : List Cls) (c d : Int) : Nat → Int
  | 0 => 0
  | x + 1 => if refBelow l c (x + 1 : Nat) && refBelow l d (x + 1 : Nat) then ((x + 1 : Nat) : Int) else refJN l c d x
def refJoin (l : List Cls) (c d : Int) : Int := if c < 0 ∨ d < 0 ∨ (l.length : Int) ≤ c ∨ (l.length : Int) ≤ d then -1 else refJN l c d (l.length - 1)

/-- a number that both are below, and so that each that both are below is not greater -/
def Best (l : List Cls) (c d j : Int) : Prop := is l c j = true ∧ is l d j = true ∧ ∀ x, is l c x = true → is l d x = true → x ≤ j
theorem Best.unique {l : List Cls} {c d j k : Int} (h : Best l c d j) (h' : Best l c d k) : j = k := by
  have := h.2.2 k h'.1 h'.2.1
  have := h'.2.2 j h.1 h.2.1
  omega

theorem is_root {l : List Cls} (h : may l = true) : ∀ (k : Nat) (c : Int), c < k → 0 ≤ c → c < l.length → is l c 0 = true := by
  have hw := wf_of_may h
  intro k
  induction k with
  | zero => intro c h1 h2; omega
  | succ k ih =>
    intro c h1 h2 h3
    rw [is_in hw ⟨h2, h3⟩]
    by_cases e : c = 0
    · subst e; simp
    · have := sup_ge h (by omega) h3
      rw [ih (sup l c) (by omega) (by omega) (by omega), Bool.or_true]

theorem refJN_best {l : List Cls} (h : may l = true) {c d : Int} (hc : 0 ≤ c ∧ c < l.length) (hd : 0 ≤ d ∧ d < l.length) :
    ∀ x : Nat, (∀ y : Int, is l c y = true → is l d y = true → y ≤ x) → Best l c d (refJN l c d x) := by
  have hw := wf_of_may h
  intro x
  induction x with
  | zero => exact fun hm => ⟨is_root h (c.toNat + 1) c (by omega) hc.1 hc.2, is_root h (d.toNat + 1) d (by omega) hd.1 hd.2, fun y h1 h2 => hm y h1 h2⟩
  | succ x ih =>
    intro hm
    rw [refJN, refBelow_eq hw, refBelow_eq hw]
    split
    · rename_i hb
      rw [Bool.and_eq_true] at hb
      exact ⟨hb.1, hb.2, hm⟩
    · rename_i hb
      refine ih (fun y h1 h2 => ?_)
      have := hm y h1 h2
      by_cases e : y = ((x + 1 : Nat) : Int)
      · subst e; rw [h1, h2] at hb; simp at hb
      · omega
theorem refJoin_best {l : List Cls} (h : may l = true) {c d : Int} (hc : 0 ≤ c ∧ c < l.length) (hd : 0 ≤ d ∧ d < l.length) : Best l c d (refJoin l c d) := by
  rw [refJoin, if_neg (by omega)]
  refine refJN_best h hc hd _ (fun y h1 _ => ?_)
  have := is_le' (wf_of_may h) h1
  omega

/-- meet, by what is above -/
theorem meet_out {l : List Cls} {c d : Int} (h : ¬ (0 ≤ c ∧ c < l.length)) : meet l c d = -1 := by rw [meet, up_out h]; rfl
theorem meet_in {l : List Cls} (hw : Wf l) {c d : Int} (h : 0 ≤ c ∧ c < l.length) : meet l c d = if is l d c then c else meet l (sup l c) d := by
  rw [meet, up_in hw h, List.find?_cons, meet]
  cases is l d c <;> rfl
theorem meet_best {l : List Cls} (h : may l = true) {d : Int} (hd : 0 ≤ d ∧ d < l.length) : ∀ (k : Nat) (c : Int), c < k → 0 ≤ c → c < l.length → Best l c d (meet l c d) := by
  have hw := wf_of_may h
  intro k
  induction k with
  | zero => intro c h1 h2; omega
  | succ k ih =>
    intro c h1 h2 h3
    rw [meet_in hw ⟨h2, h3⟩]
    split
    · rename_i hb
      refine ⟨by rw [is_in hw ⟨h2, h3⟩]; simp, hb, fun x hx _ => (is_le' hw hx).2⟩
    · rename_i hb
      by_cases e : c = 0
      · subst e
        rw [is_root h (d.toNat + 1) d (by omega) hd.1 hd.2] at hb
        exact absurd rfl hb
      · have hs := sup_ge h (by omega) h3
        obtain ⟨h4, h5, h6⟩ := ih (sup l c) (by omega) hs.1 (by omega)
        refine ⟨by rw [is_in hw ⟨h2, h3⟩, h4, Bool.or_true], h5, fun x h7 h8 => h6 x ?_ h8⟩
        rw [is_in hw ⟨h2, h3⟩, Bool.or_eq_true, decide_eq_true_eq] at h7
        rcases h7 with h7 | h7
        · subst h7; exact absurd h8 hb
        · exact h7
theorem join_best {l : List Cls} (h : may l = true) {c d : Int} (hc : 0 ≤ c ∧ c < l.length) (hd : 0 ≤ d ∧ d < l.length) : Best l c d (meet l c d) := meet_best h hd (c.toNat + 1) c (by omega) hc.1 hc.2
theorem join_eq {l : List Cls} (h : may l = true) (c d : Int) : join l c d = refJoin l c d := by
  unfold join refJoin
  by_cases h' : c < 0 ∨ d < 0 ∨ (l.length : Int) ≤ c ∨ (l.length : Int) ≤ d
  · rw [if_pos (.inr h'), if_pos h']
  · have := (join_best h (c := c) (d := d) (by omega) (by omega)).unique (refJoin_best h (c := c) (d := d) (by omega) (by omega))
    rw [refJoin, if_neg h'] at this
    rw [if_neg h', if_neg (by rw [h]; simp; omega)]
    exact this
theorem meet_eq {l : List Cls} (h : may l = true) {c d : Int} (hc : 0 ≤ c ∧ c < l.length) (hd : 0 ≤ d ∧ d < l.length) : meet l c d = refJoin l c d :=
  (join_best h hc hd).unique (refJoin_best h hc hd)

/-! ### what B3 says -/
theorem is_trans {l : List Cls} (hw : Wf l) : ∀ (k : Nat) (c d e : Int), c < k → is l c d = true → is l d e = true → is l c e = true := by
  intro k
  induction k with
  | zero => intro c d e h1 h2; rw [is_out (by omega)] at h2; cases h2
  | succ k ih =>
    intro c d e h1 h2 h3
    have hc := is_lt h2
    rw [is_in hw hc, Bool.or_eq_true, decide_eq_true_eq] at h2
    rcases h2 with rfl | h2
    · exact h3
    · have := hw c.toNat (by omega)
      rw [is_in hw hc, ih (sup l c) d e (by unfold sup; omega) h2 h3, Bool.or_true]
theorem is_total {l : List Cls} (hw : Wf l) : ∀ (k : Nat) (c d e : Int), c < k → is l c d = true → is l c e = true → d ≤ e → is l e d = true := by
  intro k
  induction k with
  | zero => intro c d e h1 h2; rw [is_out (by omega)] at h2; cases h2
  | succ k ih =>
    intro c d e h1 h2 h3 hle
    have hc := is_lt h2
    have h3' := h3
    rw [is_in hw hc, Bool.or_eq_true, decide_eq_true_eq] at h3
    rcases h3 with rfl | h3
    · exact h2
    · have hs := hw c.toNat (by omega)
      have h2' := h2
      rw [is_in hw hc, Bool.or_eq_true, decide_eq_true_eq] at h2
      rcases h2 with rfl | h2
      · have := is_le' hw h3
        unfold sup at *; omega
      · exact ih (sup l c) d e (by unfold sup; omega) h2 h3 hle
theorem is_join {l : List Cls} (h : may l = true) {c d e : Int} (hc : 0 ≤ c ∧ c < l.length) (hd : 0 ≤ d ∧ d < l.length) : (is l c e && is l d e) = is l (meet l c d) e := by
  have hw := wf_of_may h
  obtain ⟨h1, h2, h3⟩ := join_best h hc hd
  rw [Bool.eq_iff_iff, Bool.and_eq_true]
  constructor
  · rintro ⟨h4, h5⟩
    exact is_total hw (c.toNat + 1) c e _ (by omega) h4 h1 (h3 e h4 h5)
  · intro h4
    exact ⟨is_trans hw (c.toNat + 1) c _ e (by omega) h1 h4, is_trans hw (d.toNat + 1) d _ e (by omega) h2 h4⟩
theorem join_comm {l : List Cls} (h : may l = true) {c d : Int} (hc : 0 ≤ c ∧ c < l.length) (hd : 0 ≤ d ∧ d < l.length) : meet l c d = meet l d c := by
  obtain ⟨h1, h2, h3⟩ := join_best h hc hd
  exact Best.unique ⟨h1, h2, h3⟩ (by
    obtain ⟨k1, k2, k3⟩ := join_best h hd hc
    exact ⟨k2, k1, fun x a b => k3 x b a⟩)
theorem meet_range {l : List Cls} (h : may l = true) {c d : Int} (hc : 0 ≤ c ∧ c < l.length) (hd : 0 ≤ d ∧ d < l.length) : 0 ≤ meet l c d ∧ meet l c d < l.length := by
  obtain ⟨h1, _, _⟩ := join_best h hc hd
  have := is_le' (wf_of_may h) h1
  omega
end Hier
end Go.Proofs.Ytncmhenfgbcihab
