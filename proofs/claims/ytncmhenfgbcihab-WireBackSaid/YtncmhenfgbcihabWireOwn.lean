/- What a slice owns of bytes: as a string, in later worlds; what a world holds is within its bounds. -/
import Derived.Test.YtncmhenfgbcihabWirePut
import Derived.Test.YtncmhenfgbcihabStr
namespace Go.Proofs.Ytncmhenfgbcihab
open Go.RowKit
set_option linter.unusedSimpArgs false
set_option linter.unusedVariables false
namespace Wire
open Num Rd D Bytes HierW FormW

/-- what is owned, as a string -/
theorem own_conv {w : World} {B : Nat} {v : Value} {bs : List UInt8} (h : Own w B v bs) (hne : bs ≠ []) : (convert 27 9 v).run Try.prog w = .ok (.string (S bs)) w := by
  have hc : ∀ g, v.ownBlock = some g → ∀ j u, (cells bs)[j]? = some u → w.cell? ((⟨g, 0, none⟩ : Addr).add j) = some u := fun g hg => World.ownsRow.cells h hg
  rcases h.2 with ⟨_, h0⟩ | ⟨g, cap, cur, hv, _⟩
  · exact absurd (List.eq_nil_of_length_eq_zero h0) hne
  · subst hv
    refine convS w g cap bs (fun i hi => ?_)
    have := hc g rfl i (.int .u8 bs[i].toNat) (by simp [cells, hi])
    have hadd : (⟨g, 0, none⟩ : Addr).add i = ⟨g, i, none⟩ := by unfold Addr.add; split <;> simp_all
    rw [hadd] at this; exact this
theorem own_below {w w' : World} {B : Nat} {v : Value} {bs : List UInt8} (h : Own w B v bs) (hb : Below w.heap.size w w') : Own w' B v bs := by
  refine ⟨h.1, ?_⟩
  rcases h.2 with hn | ⟨g, cap, cur, hv, hb', hgg, rest⟩
  · exact .inl hn
  · exact .inr ⟨g, cap, cur, hv, hb', by rw [hb.block g (by rcases Nat.lt_or_ge g w.heap.size with h | h; · exact h
                                                            · rw [Array.getElem?_eq_none h] at hgg; cases hgg)]; exact hgg, rest⟩
theorem form_byte (f : Fi) : ∃ k : UInt8, Bytes.form f = k.toNat := by
  rcases form_cases f with h | h | h
  · exact ⟨0, h⟩
  · exact ⟨1, h⟩
  · exact ⟨2, h⟩

/-! ### what a world holds is within its bounds -/
theorem sl_ok {α : Type} {size : Nat} {E : World → Nat → Nat → Nat → α → Prop} {p : α → Prop} (hE : ∀ w B b o x, E w B b o x → p x) {w : World} {B : Nat} {v : Value} {l : List α} (h : Sl size E w B v l) : LOk p l := by
  obtain ⟨a, cap, _, h1, h2, h3⟩ := h
  refine ⟨by omega, fun x hx => ?_⟩
  obtain ⟨i, hi, rfl⟩ := List.getElem_of_mem hx
  obtain ⟨b, o, _, _, he⟩ := h3 i hi
  exact hE _ _ _ _ _ he
theorem ty_ok (w : World) (B b o : Nat) (x : Ty) (h : ETy w B b o x) : TyOk x := ⟨h.2.2.1, h.2.2.2⟩
theorem int_ok' (w : World) (B b o : Nat) (x : Int) (h : EInt w B b o x) : Ok x := h.2
theorem hd_ok (w : World) (B b o : Nat) (x : Hd) (h : EHd w B b o x) : HdOk x := h.2.2.2.2
theorem cl_ok (w : World) (B b o : Nat) (x : Cls) (h : ECls w B b o x) : ClOk x := by
  obtain ⟨_, h1, v, _, h2⟩ := h; exact ⟨h1, sl_ok ty_ok h2⟩
theorem ins_ok (w : World) (B b o : Nat) (x : Ins) (h : EIns w B b o x) : InsOk x := by
  obtain ⟨_, _, _, _, _, h1, v, _, h2⟩ := h; exact ⟨h1, sl_ok int_ok' h2⟩
theorem me_ok (w : World) (B b o : Nat) (x : Me) (h : EMe w B b o x) : MeOk x := by
  obtain ⟨_, _, _, _, _, _, _, _, _, _, _, ⟨h1, h2, h3, h4, h5⟩, s1, s2, s3⟩ := h
  exact ⟨sl_ok ty_ok s1, ⟨h1, h2⟩, ⟨h3, h4, h5⟩, sl_ok ins_ok s2, sl_ok hd_ok s3⟩
theorem fi_ok {w : World} {B : Nat} {v : Value} {f : Fi} (h : VFi w B v f) : FiOk f := by
  obtain ⟨_, _, _, s1, s2⟩ := h; exact ⟨sl_ok cl_ok s1, sl_ok me_ok s2⟩

theorem S_toList (bs : List UInt8) : (S bs).toList = bs := by rw [ByteArray.toList_eq]; simp [S]
theorem own_form {w : World} {B : Nat} {v : Value} {bs : List UInt8} (h : Own w B v bs) (hne : bs ≠ []) : ∃ g n cap, v = .slice (some ⟨g, 0, none⟩) n cap ∧ (0 : Int) < n := by
  rcases h.2 with ⟨_, h0⟩ | ⟨g, cap, cur, hv, _⟩
  · exact absurd (List.eq_nil_of_length_eq_zero h0) hne
  · exact ⟨g, _, cap, hv, by have := List.length_pos_iff.2 hne; omega⟩
end Wire
end Go.Proofs.Ytncmhenfgbcihab
