/- Reading bytes: handlers and instructions. -/
import Derived.Test.YtncmhenfgbcihabRdrI
namespace Go.Proofs.Ytncmhenfgbcihab
open Go.RowKit
set_option linter.unusedSimpArgs false
set_option linter.unusedVariables false
namespace Wire
open Num Rd D Bytes HierW

/-- numbers that lie in a block from a place on -/
def Quad (w : World) (nb o m : Nat) (ys : List Int) : Prop := ∀ j, j < m → w.cell? ⟨nb, o + j, none⟩ = some (.int .i64 (ys.getD j 0)) ∧ w.frozen? ⟨nb, o + j, none⟩ = false
theorem Quad.next {w w' : World} {nb o m : Nat} {ys : List Int} (h : Quad w nb o m ys) {X : List Nat} (hk : Wk X w w') (hX : nb ∉ X) : Quad w' nb o m ys := fun j hj =>
  ⟨hk.cell (h j hj).1 hX, hk.frz (h j hj).2 (lt_cell' (h j hj).1) hX⟩
theorem Quad.set {w : World} {nb o m : Nat} {ys : List Int} (h : Quad w nb o m ys) {k : Nat} (hk : k = ys.length) (x : Int) (hm : k < m) : Quad (w.setCell ⟨nb, o + k, none⟩ (.int .i64 x)) nb o m (ys ++ [x]) := fun j hj => by
  subst hk
  obtain ⟨h1, h2⟩ := h j hj
  obtain ⟨g1, g2⟩ := h ys.length hm
  by_cases e : j = ys.length
  · subst e
    refine ⟨?_, ?_⟩
    · have : (ys ++ [x]).getD ys.length 0 = x := by simp [List.getD]
      rw [this]; go_simp
    · go_simp
  · have hne : ¬ ((⟨nb, o + j, none⟩ : Addr) = ⟨nb, o + ys.length, none⟩) := by intro h; injection h with _ h; omega
    have : (ys ++ [x]).getD j 0 = ys.getD j 0 := by
      simp only [List.getD]
      by_cases hlt : j < ys.length
      · rw [List.getElem?_append_left hlt]
      · rw [List.getElem?_eq_none (by simp; omega), List.getElem?_eq_none (by omega)]
    rw [this]
    exact ⟨by rw [World.cell?_setCell_other _ _ _ _ (fun e => hne e.symm)]; exact h1, by rw [World.frozen?_setCell]; exact h2⟩
theorem Quad.far {w : World} {nb o m : Nat} {ys : List Int} (h : Quad w nb o m ys) {b2 o2 : Nat} (hne : b2 ≠ nb) (x : Value) : Quad (w.setCell ⟨b2, o2, none⟩ x) nb o m ys :=
  h.next (X := [b2]) ((Wk.refl _ _).setCell (.inl (by simp)) _) (by simp; exact fun e => hne e.symm)

theorem hd_rep (bs : List UInt8) : hdP bs = (match Cont rd 4 [] bs with
  | none => none
  | some (l, r) => some (⟨l.getD 0 0, l.getD 1 0, l.getD 2 0, l.getD 3 0⟩, r)) := by
  rw [hdP]
  cases h1 : rd bs with
  | none => rw [bind_none h1, cont_none h1]
  | some y =>
    obtain ⟨a, r1⟩ := y
    rw [bind_of h1, cont_some h1]
    cases h2 : rd r1 with
    | none => rw [bind_none h2, cont_none h2]
    | some y =>
      obtain ⟨b, r2⟩ := y
      rw [bind_of h2, cont_some h2]
      cases h3 : rd r2 with
      | none => rw [bind_none h3, cont_none h3]
      | some y =>
        obtain ⟨c, r3⟩ := y
        rw [bind_of h3, cont_some h3]
        cases h4 : rd r3 with
        | none => rw [bind_none h4, cont_none h4]
        | some y =>
          obtain ⟨d, r4⟩ := y
          rw [bind_of h4, cont_some h4, cont_zero]; rfl

set_option maxRecDepth 100000 in
set_option maxHeartbeats 4000000 in
theorem handlerP (B b : Nat) (bs : List UInt8) (w : World) (h : Rdr w B b bs) :
    Calls Try.prog 87 #[.pointer (some ⟨b, 0, none⟩)] w (Rp (hdP bs) (RS VHd w.heap.size) B b w) := by
  have hR := Lib.hid h
  have hlt := h.lt
  clear h
  have i0 : ∀ (a b c d : Value) (w : World), (Instr.index 234 (.agg #[a, b, c, d]) (.int .i64 0)).run Try.prog w = .ok a w := fun _ _ _ _ _ => by kernel_rfl
  have i1 : ∀ (a b c d : Value) (w : World), (Instr.index 234 (.agg #[a, b, c, d]) (.int .i64 1)).run Try.prog w = .ok b w := fun _ _ _ _ _ => by kernel_rfl
  have i2 : ∀ (a b c d : Value) (w : World), (Instr.index 234 (.agg #[a, b, c, d]) (.int .i64 2)).run Try.prog w = .ok c w := fun _ _ _ _ _ => by kernel_rfl
  have i3 : ∀ (a b c d : Value) (w : World), (Instr.index 234 (.agg #[a, b, c, d]) (.int .i64 3)).run Try.prog w = .ok d w := fun _ _ _ _ _ => by kernel_rfl
  go_enter Try.func87, Try.ntmps87
  go_wp2_with fail
  go_loopw [11] (fun i wr => ∃ (k : Nat) (ys : List Int) (restk : List UInt8), k ≤ 4 ∧ i = .int .i64 k ∧ Hid (ys.length = k) ∧ Hid (Wk [b] w wr) ∧ Hid (Rdr wr B b restk) ∧ Hid (Quad wr w.heap.size 0 4 []) ∧ Hid (Quad wr (w.heap.size + 1) 0 4 ys) ∧ Hid (∀ y ∈ ys, Ok y) ∧ Hid (Cont rd 4 [] bs = Cont rd (4 - k) ys restk)) (fun i _ => 4 - (intOf i).toNat)
  case atStart =>
    refine ⟨0, [], bs, by omega, rfl, rfl, Lib.hid (((Wk.refl _ _).alloc _).alloc _), Lib.hid ((hR.out.alloc _).alloc _), ?_, ?_, fun y hy => absurd hy (by simp), rfl⟩
    · show Quad _ _ _ _ _
      intro j hj
      match j, hj with
      | 0, _ => exact ⟨by go_simp; try rfl, by go_simp⟩
      | 1, _ => exact ⟨by go_simp; try rfl, by go_simp⟩
      | 2, _ => exact ⟨by go_simp; try rfl, by go_simp⟩
      | 3, _ => exact ⟨by go_simp; try rfl, by go_simp⟩
    · show Quad _ _ _ _ _
      intro j hj
      match j, hj with
      | 0, _ => exact ⟨by go_simp; try rfl, by go_simp⟩
      | 1, _ => exact ⟨by go_simp; try rfl, by go_simp⟩
      | 2, _ => exact ⟨by go_simp; try rfl, by go_simp⟩
      | 3, _ => exact ⟨by go_simp; try rfl, by go_simp⟩
  case round =>
    obtain ⟨k, ys, restk, hk, rfl, hyl, HKr, HRr, HZ, HQ, HY, HC⟩ := hrel
    have hsz := HKr.out.size
    by_cases hlt2 : k < 4
    · have hcase : k = 0 ∨ k = 1 ∨ k = 2 ∨ k = 3 := by omega
      rcases hcase with rfl | rfl | rfl | rfl
      · go_wp2_with fail
        refine (numP B b restk _ HRr.out).mono ?_
        rintro e w2 ⟨hk2, hp⟩
        have HK2 := Lib.hid (HKr.out.trans hk2)
        have HZ2 := Lib.hid (HZ.out.next hk2 (by simp; omega))
        have HQ2 := Lib.hid (HQ.out.next hk2 (by simp; omega))
        clear hk2
        obtain ⟨r, HP⟩ : ∃ r, Hid (rd restk = r) := ⟨_, rfl⟩
        rw [HP.out] at hp
        rcases r with _ | ⟨x, r'⟩
        · have HN : Hid (hdP bs = none) := by
            show _ = _
            rw [hd_rep, HC.out, cont_none HP.out]
          subst hp
          unfold shortE
          go_wp2_with fail
          refine And.intro rfl ?_
          show Rp _ _ _ _ _ _ _
          unfold Rp
          rw [HN.out]
          exact ⟨HK2.out, rfl⟩
        · have HC2 := Lib.hid (HC.out.trans (cont_some HP.out))
          obtain ⟨v, rfl, hvx, hR2⟩ := hp
          unfold RInt at hvx
          subst hvx
          have okx := Lib.hid (rd_wrote _ _ _ HP.out).2
          have H2 := Lib.hid hR2
          obtain ⟨q1, q2⟩ := HQ2.out 0 (by omega)
          simp only [Nat.zero_add] at q1 q2
          have hb2 := hR2.lt
          have hs2 := HK2.out.size
          clear hR2
          go_wp2_with fail
          go_roundw
          case rel =>
            have hset := HQ2.out.set (k := 0) hyl.out.symm x (by omega)
            simp only [Nat.zero_add] at hset
            exact ⟨0 + 1, ys ++ [x], r', by omega, rfl, Lib.hid (by rw [List.length_append, hyl.out]; rfl), Lib.hid (HK2.out.setCell (.inr (by simp)) _), Lib.hid (H2.out.next (X := [w.heap.size + 1]) ((Wk.refl _ _).setCell (.inl (by simp)) _) (by simp; omega)), Lib.hid (HZ2.out.far (by omega) _), Lib.hid hset, Lib.hid (fun y hy => (List.mem_append.1 hy).elim (HY.out y) (fun h => by simp at h; subst h; exact okx.out)), HC2⟩
          case measure => simp [intOf]
      · go_wp2_with fail
        refine (numP B b restk _ HRr.out).mono ?_
        rintro e w2 ⟨hk2, hp⟩
        have HK2 := Lib.hid (HKr.out.trans hk2)
        have HZ2 := Lib.hid (HZ.out.next hk2 (by simp; omega))
        have HQ2 := Lib.hid (HQ.out.next hk2 (by simp; omega))
        clear hk2
        obtain ⟨r, HP⟩ : ∃ r, Hid (rd restk = r) := ⟨_, rfl⟩
        rw [HP.out] at hp
        rcases r with _ | ⟨x, r'⟩
        · have HN : Hid (hdP bs = none) := by
            show _ = _
            rw [hd_rep, HC.out, cont_none HP.out]
          subst hp
          unfold shortE
          go_wp2_with fail
          refine And.intro rfl ?_
          show Rp _ _ _ _ _ _ _
          unfold Rp
          rw [HN.out]
          exact ⟨HK2.out, rfl⟩
        · have HC2 := Lib.hid (HC.out.trans (cont_some HP.out))
          obtain ⟨v, rfl, hvx, hR2⟩ := hp
          unfold RInt at hvx
          subst hvx
          have okx := Lib.hid (rd_wrote _ _ _ HP.out).2
          have H2 := Lib.hid hR2
          obtain ⟨q1, q2⟩ := HQ2.out 1 (by omega)
          simp only [Nat.zero_add] at q1 q2
          have hb2 := hR2.lt
          have hs2 := HK2.out.size
          clear hR2
          go_wp2_with fail
          go_roundw
          case rel =>
            have hset := HQ2.out.set (k := 1) hyl.out.symm x (by omega)
            simp only [Nat.zero_add] at hset
            exact ⟨1 + 1, ys ++ [x], r', by omega, rfl, Lib.hid (by rw [List.length_append, hyl.out]; rfl), Lib.hid (HK2.out.setCell (.inr (by simp)) _), Lib.hid (H2.out.next (X := [w.heap.size + 1]) ((Wk.refl _ _).setCell (.inl (by simp)) _) (by simp; omega)), Lib.hid (HZ2.out.far (by omega) _), Lib.hid hset, Lib.hid (fun y hy => (List.mem_append.1 hy).elim (HY.out y) (fun h => by simp at h; subst h; exact okx.out)), HC2⟩
          case measure => simp [intOf]
      · go_wp2_with fail
        refine (numP B b restk _ HRr.out).mono ?_
        rintro e w2 ⟨hk2, hp⟩
        have HK2 := Lib.hid (HKr.out.trans hk2)
        have HZ2 := Lib.hid (HZ.out.next hk2 (by simp; omega))
        have HQ2 := Lib.hid (HQ.out.next hk2 (by simp; omega))
        clear hk2
        obtain ⟨r, HP⟩ : ∃ r, Hid (rd restk = r) := ⟨_, rfl⟩
        rw [HP.out] at hp
        rcases r with _ | ⟨x, r'⟩
        · have HN : Hid (hdP bs = none) := by
            show _ = _
            rw [hd_rep, HC.out, cont_none HP.out]
          subst hp
          unfold shortE
          go_wp2_with fail
          refine And.intro rfl ?_
          show Rp _ _ _ _ _ _ _
          unfold Rp
          rw [HN.out]
          exact ⟨HK2.out, rfl⟩
        · have HC2 := Lib.hid (HC.out.trans (cont_some HP.out))
          obtain ⟨v, rfl, hvx, hR2⟩ := hp
          unfold RInt at hvx
          subst hvx
          have okx := Lib.hid (rd_wrote _ _ _ HP.out).2
          have H2 := Lib.hid hR2
          obtain ⟨q1, q2⟩ := HQ2.out 2 (by omega)
          simp only [Nat.zero_add] at q1 q2
          have hb2 := hR2.lt
          have hs2 := HK2.out.size
          clear hR2
          go_wp2_with fail
          go_roundw
          case rel =>
            have hset := HQ2.out.set (k := 2) hyl.out.symm x (by omega)
            simp only [Nat.zero_add] at hset
            exact ⟨2 + 1, ys ++ [x], r', by omega, rfl, Lib.hid (by rw [List.length_append, hyl.out]; rfl), Lib.hid (HK2.out.setCell (.inr (by simp)) _), Lib.hid (H2.out.next (X := [w.heap.size + 1]) ((Wk.refl _ _).setCell (.inl (by simp)) _) (by simp; omega)), Lib.hid (HZ2.out.far (by omega) _), Lib.hid hset, Lib.hid (fun y hy => (List.mem_append.1 hy).elim (HY.out y) (fun h => by simp at h; subst h; exact okx.out)), HC2⟩
          case measure => simp [intOf]
      · go_wp2_with fail
        refine (numP B b restk _ HRr.out).mono ?_
        rintro e w2 ⟨hk2, hp⟩
        have HK2 := Lib.hid (HKr.out.trans hk2)
        have HZ2 := Lib.hid (HZ.out.next hk2 (by simp; omega))
        have HQ2 := Lib.hid (HQ.out.next hk2 (by simp; omega))
        clear hk2
        obtain ⟨r, HP⟩ : ∃ r, Hid (rd restk = r) := ⟨_, rfl⟩
        rw [HP.out] at hp
        rcases r with _ | ⟨x, r'⟩
        · have HN : Hid (hdP bs = none) := by
            show _ = _
            rw [hd_rep, HC.out, cont_none HP.out]
          subst hp
          unfold shortE
          go_wp2_with fail
          refine And.intro rfl ?_
          show Rp _ _ _ _ _ _ _
          unfold Rp
          rw [HN.out]
          exact ⟨HK2.out, rfl⟩
        · have HC2 := Lib.hid (HC.out.trans (cont_some HP.out))
          obtain ⟨v, rfl, hvx, hR2⟩ := hp
          unfold RInt at hvx
          subst hvx
          have okx := Lib.hid (rd_wrote _ _ _ HP.out).2
          have H2 := Lib.hid hR2
          obtain ⟨q1, q2⟩ := HQ2.out 3 (by omega)
          simp only [Nat.zero_add] at q1 q2
          have hb2 := hR2.lt
          have hs2 := HK2.out.size
          clear hR2
          go_wp2_with fail
          go_roundw
          case rel =>
            have hset := HQ2.out.set (k := 3) hyl.out.symm x (by omega)
            simp only [Nat.zero_add] at hset
            exact ⟨3 + 1, ys ++ [x], r', by omega, rfl, Lib.hid (by rw [List.length_append, hyl.out]; rfl), Lib.hid (HK2.out.setCell (.inr (by simp)) _), Lib.hid (H2.out.next (X := [w.heap.size + 1]) ((Wk.refl _ _).setCell (.inl (by simp)) _) (by simp; omega)), Lib.hid (HZ2.out.far (by omega) _), Lib.hid hset, Lib.hid (fun y hy => (List.mem_append.1 hy).elim (HY.out y) (fun h => by simp at h; subst h; exact okx.out)), HC2⟩
          case measure => simp [intOf]
    · obtain rfl : k = 4 := by omega
      have HN : Hid (hdP bs = some (⟨ys.getD 0 0, ys.getD 1 0, ys.getD 2 0, ys.getD 3 0⟩, restk)) := by
        show _ = _
        rw [hd_rep, HC.out, Nat.sub_self, cont_zero]
      obtain ⟨q0, _⟩ := HQ.out 0 (by omega)
      obtain ⟨q1, _⟩ := HQ.out 1 (by omega)
      obtain ⟨q2, _⟩ := HQ.out 2 (by omega)
      obtain ⟨q3, _⟩ := HQ.out 3 (by omega)
      obtain ⟨z0, f0⟩ := HZ.out 0 (by omega)
      obtain ⟨z1, f1⟩ := HZ.out 1 (by omega)
      obtain ⟨z2, f2⟩ := HZ.out 2 (by omega)
      obtain ⟨z3, f3⟩ := HZ.out 3 (by omega)
      simp only [Nat.zero_add] at q0 q1 q2 q3 z0 z1 z2 z3 f0 f1 f2 f3
      have hok : Hid (∀ j, j < 4 → Ok (ys.getD j 0)) := fun j hj => by
        have := hyl.out
        have hj' : j < ys.length := by omega
        have e : ys.getD j 0 = ys[j] := by simp [List.getD, hj']
        rw [e]
        exact HY.out _ (List.getElem_mem _)
      go_wp2_with fail
      refine bodyPost_ret (v := .agg #[.int .i64 (ys.getD 0 0), .int .i64 (ys.getD 1 0), .int .i64 (ys.getD 2 0), .int .i64 (ys.getD 3 0)]) (by simp [results, Try.results87, go_sem]; go_simp) rfl ?_
      unfold Rp
      rw [HN.out]
      refine ⟨((((HKr.out.setCell (.inr (Nat.le_refl _)) _).setCell (.inr (Nat.le_refl _)) _).setCell (.inr (Nat.le_refl _)) _).setCell (.inr (Nat.le_refl _)) _), _, rfl, ⟨_, rfl, rfl, hok.out 0 (by omega), hok.out 1 (by omega), hok.out 2 (by omega), hok.out 3 (by omega)⟩, HRr.out.next (X := [w.heap.size]) (((((Wk.refl _ _).setCell (.inl (by simp)) _).setCell (.inl (by simp)) _).setCell (.inl (by simp)) _).setCell (.inl (by simp)) _) (by simp; exact hlt)⟩
theorem callsR {P : Program} {fn : FuncId} {args : Array Value} {w : World} {post : Ending → World → Prop} (R : World → Prop) (hR : R w) (h : ∀ W, R W → Calls P fn args W post) : Calls P fn args w post := h w hR
theorem getD_app {ys : List Int} {x : Int} {j n : Nat} (h : ys.length = n) (hj : j < n) : (ys ++ [x]).getD j 0 = ys.getD j 0 := by
  simp only [List.getD]; rw [List.getElem?_append_left (by omega)]

/-- two nil slices, at the sixth places -/
def Sixth (w : World) (n1 n2 : Nat) : Prop := (w.cell? ⟨n1, 5, none⟩ = some (.slice none 0 0) ∧ w.frozen? ⟨n1, 5, none⟩ = false) ∧ (w.cell? ⟨n2, 5, none⟩ = some (.slice none 0 0) ∧ w.frozen? ⟨n2, 5, none⟩ = false)
theorem Sixth.next {w w' : World} {n1 n2 : Nat} (h : Sixth w n1 n2) {X : List Nat} (hk : Wk X w w') (h1 : n1 ∉ X) (h2 : n2 ∉ X) : Sixth w' n1 n2 :=
  ⟨⟨hk.cell h.1.1 h1, hk.frz h.1.2 (lt_cell' h.1.1) h1⟩, ⟨hk.cell h.2.1 h2, hk.frz h.2.2 (lt_cell' h.2.1) h2⟩⟩
theorem Sixth.set {w : World} {n1 n2 o : Nat} {x : Value} (h : Sixth w n1 n2) (h1 : n2 ≠ n1) (ho : o < 5) : Sixth (w.setCell ⟨n2, o, none⟩ x) n1 n2 := by
  have e1 : ¬ ((⟨n2, o, none⟩ : Addr) = ⟨n1, 5, none⟩) := by intro h; injection h with h; exact h1 h
  have e2 : ¬ ((⟨n2, o, none⟩ : Addr) = ⟨n2, 5, none⟩) := by intro h; injection h with _ h; omega
  refine ⟨⟨?_, ?_⟩, ⟨?_, ?_⟩⟩
  · rw [World.cell?_setCell_other _ _ _ _ e1]; exact h.1.1
  · rw [World.frozen?_setCell]; exact h.1.2
  · rw [World.cell?_setCell_other _ _ _ _ e2]; exact h.2.1
  · rw [World.frozen?_setCell]; exact h.2.2

theorem ins_rep (bs : List UInt8) : insP bs = (match Cont rd 4 [] bs with
  | none => none
  | some (l, r) => Bytes.bind rd (fun n => Bytes.bind (lstP rd) fun a => ret ⟨l.getD 0 0, l.getD 1 0, l.getD 2 0, l.getD 3 0, n, a⟩) r) := by
  rw [insP]
  cases h1 : rd bs with
  | none => rw [bind_none h1, cont_none h1]
  | some y =>
    obtain ⟨a, r1⟩ := y
    rw [bind_of h1, cont_some h1]
    cases h2 : rd r1 with
    | none => rw [bind_none h2, cont_none h2]
    | some y =>
      obtain ⟨b, r2⟩ := y
      rw [bind_of h2, cont_some h2]
      cases h3 : rd r2 with
      | none => rw [bind_none h3, cont_none h3]
      | some y =>
        obtain ⟨c, r3⟩ := y
        rw [bind_of h3, cont_some h3]
        cases h4 : rd r3 with
        | none => rw [bind_none h4, cont_none h4]
        | some y =>
          obtain ⟨d, r4⟩ := y
          rw [bind_of h4, cont_some h4, cont_zero]; rfl

set_option maxRecDepth 100000 in
set_option maxHeartbeats 8000000 in
theorem insPw (B b : Nat) (bs : List UInt8) (w : World) (h : Rdr w B b bs) (hlen : bs.length ≤ 4000000) :
    Calls Try.prog 85 #[.pointer (some ⟨b, 0, none⟩)] w (Rp (insP bs) (RS VIn w.heap.size) B b w) := by
  have hR := Lib.hid h
  have hlt := h.lt
  clear h
  have i0 : ∀ (a b c d : Value) (w : World), (Instr.index 234 (.agg #[a, b, c, d]) (.int .i64 0)).run Try.prog w = .ok a w := fun _ _ _ _ _ => by kernel_rfl
  have i1 : ∀ (a b c d : Value) (w : World), (Instr.index 234 (.agg #[a, b, c, d]) (.int .i64 1)).run Try.prog w = .ok b w := fun _ _ _ _ _ => by kernel_rfl
  have i2 : ∀ (a b c d : Value) (w : World), (Instr.index 234 (.agg #[a, b, c, d]) (.int .i64 2)).run Try.prog w = .ok c w := fun _ _ _ _ _ => by kernel_rfl
  have i3 : ∀ (a b c d : Value) (w : World), (Instr.index 234 (.agg #[a, b, c, d]) (.int .i64 3)).run Try.prog w = .ok d w := fun _ _ _ _ _ => by kernel_rfl
  go_enter Try.func85, Try.ntmps85
  go_wp2_with fail
  go_loopw [11] (fun i wr => ∃ (k : Nat) (ys : List Int) (restk : List UInt8), k ≤ 4 ∧ restk.length ≤ 4000000 ∧ i = .int .i64 k ∧ Hid (ys.length = k) ∧ Hid (Wk [b] w wr) ∧ Hid (Rdr wr B b restk) ∧ Hid (Quad wr w.heap.size 0 5 []) ∧ Hid (Quad wr (w.heap.size + 1) 0 5 ys) ∧ Hid (Sixth wr w.heap.size (w.heap.size + 1)) ∧ Hid (∀ y ∈ ys, Ok y) ∧ Hid (Cont rd 4 [] bs = Cont rd (4 - k) ys restk)) (fun i _ => 4 - (intOf i).toNat)
  case atStart =>
    refine ⟨0, [], bs, by omega, hlen, rfl, rfl, Lib.hid (((Wk.refl _ _).alloc _).alloc _), Lib.hid ((hR.out.alloc _).alloc _), ?_, ?_, ?_, fun y hy => absurd hy (by simp), rfl⟩
    · show Quad _ _ _ _ _
      intro j hj
      match j, hj with
      | 0, _ => exact ⟨by go_simp; try rfl, by go_simp⟩
      | 1, _ => exact ⟨by go_simp; try rfl, by go_simp⟩
      | 2, _ => exact ⟨by go_simp; try rfl, by go_simp⟩
      | 3, _ => exact ⟨by go_simp; try rfl, by go_simp⟩
      | 4, _ => exact ⟨by go_simp; try rfl, by go_simp⟩
    · show Quad _ _ _ _ _
      intro j hj
      match j, hj with
      | 0, _ => exact ⟨by go_simp; try rfl, by go_simp⟩
      | 1, _ => exact ⟨by go_simp; try rfl, by go_simp⟩
      | 2, _ => exact ⟨by go_simp; try rfl, by go_simp⟩
      | 3, _ => exact ⟨by go_simp; try rfl, by go_simp⟩
      | 4, _ => exact ⟨by go_simp; try rfl, by go_simp⟩
    · show Sixth _ _ _
      exact ⟨⟨by go_simp, by go_simp⟩, ⟨by go_simp, by go_simp⟩⟩
  case round =>
    obtain ⟨k, ys, restk, hk, hrk, rfl, hyl, HKr, HRr, HZ, HQ, H5, HY, HC⟩ := hrel
    have hsz := HKr.out.size
    by_cases hlt2 : k < 4
    · have hcase : k = 0 ∨ k = 1 ∨ k = 2 ∨ k = 3 := by omega
      rcases hcase with rfl | rfl | rfl | rfl
      · go_wp2_with fail
        refine (numP B b restk _ HRr.out).mono ?_
        rintro e w2 ⟨hk2, hp⟩
        have HK2 := Lib.hid (HKr.out.trans hk2)
        have HZ2 := Lib.hid (HZ.out.next hk2 (by simp; omega))
        have HQ2 := Lib.hid (HQ.out.next hk2 (by simp; omega))
        have H52 := Lib.hid (H5.out.next hk2 (by simp; omega) (by simp; omega))
        clear hk2
        obtain ⟨r, HP⟩ : ∃ r, Hid (rd restk = r) := ⟨_, rfl⟩
        rw [HP.out] at hp
        rcases r with _ | ⟨x, r'⟩
        · have HN : Hid (insP bs = none) := by
            show _ = _
            rw [ins_rep, HC.out, cont_none HP.out]
          subst hp
          unfold shortE
          go_wp2_with fail
          refine And.intro rfl ?_
          show Rp _ _ _ _ _ _ _
          unfold Rp
          rw [HN.out]
          exact ⟨HK2.out, rfl⟩
        · have HC2 := Lib.hid (HC.out.trans (cont_some HP.out))
          obtain ⟨v, rfl, hvx, hR2⟩ := hp
          unfold RInt at hvx
          subst hvx
          have okx := Lib.hid (rd_wrote _ _ _ HP.out).2
          have hea := eats_rd _ _ _ HP.out
          have H2 := Lib.hid hR2
          obtain ⟨q1, q2⟩ := HQ2.out 0 (by omega)
          simp only [Nat.zero_add] at q1 q2
          have hb2 := hR2.lt
          have hs2 := HK2.out.size
          clear hR2
          go_wp2_with fail
          go_roundw
          case rel =>
            have hset := HQ2.out.set (k := 0) hyl.out.symm x (by omega)
            simp only [Nat.zero_add] at hset
            exact ⟨0 + 1, ys ++ [x], r', by omega, by omega, rfl, Lib.hid (by rw [List.length_append, hyl.out]; rfl), Lib.hid (HK2.out.setCell (.inr (by simp)) _), Lib.hid (H2.out.next (X := [w.heap.size + 1]) ((Wk.refl _ _).setCell (.inl (by simp)) _) (by simp; omega)), Lib.hid (HZ2.out.far (by omega) _), Lib.hid hset, Lib.hid (H52.out.set (by omega) (by omega)), Lib.hid (fun y hy => (List.mem_append.1 hy).elim (HY.out y) (fun h => by simp at h; subst h; exact okx.out)), HC2⟩
          case measure => simp [intOf]
      · go_wp2_with fail
        refine (numP B b restk _ HRr.out).mono ?_
        rintro e w2 ⟨hk2, hp⟩
        have HK2 := Lib.hid (HKr.out.trans hk2)
        have HZ2 := Lib.hid (HZ.out.next hk2 (by simp; omega))
        have HQ2 := Lib.hid (HQ.out.next hk2 (by simp; omega))
        have H52 := Lib.hid (H5.out.next hk2 (by simp; omega) (by simp; omega))
        clear hk2
        obtain ⟨r, HP⟩ : ∃ r, Hid (rd restk = r) := ⟨_, rfl⟩
        rw [HP.out] at hp
        rcases r with _ | ⟨x, r'⟩
        · have HN : Hid (insP bs = none) := by
            show _ = _
            rw [ins_rep, HC.out, cont_none HP.out]
          subst hp
          unfold shortE
          go_wp2_with fail
          refine And.intro rfl ?_
          show Rp _ _ _ _ _ _ _
          unfold Rp
          rw [HN.out]
          exact ⟨HK2.out, rfl⟩
        · have HC2 := Lib.hid (HC.out.trans (cont_some HP.out))
          obtain ⟨v, rfl, hvx, hR2⟩ := hp
          unfold RInt at hvx
          subst hvx
          have okx := Lib.hid (rd_wrote _ _ _ HP.out).2
          have hea := eats_rd _ _ _ HP.out
          have H2 := Lib.hid hR2
          obtain ⟨q1, q2⟩ := HQ2.out 1 (by omega)
          simp only [Nat.zero_add] at q1 q2
          have hb2 := hR2.lt
          have hs2 := HK2.out.size
          clear hR2
          go_wp2_with fail
          go_roundw
          case rel =>
            have hset := HQ2.out.set (k := 1) hyl.out.symm x (by omega)
            simp only [Nat.zero_add] at hset
            exact ⟨1 + 1, ys ++ [x], r', by omega, by omega, rfl, Lib.hid (by rw [List.length_append, hyl.out]; rfl), Lib.hid (HK2.out.setCell (.inr (by simp)) _), Lib.hid (H2.out.next (X := [w.heap.size + 1]) ((Wk.refl _ _).setCell (.inl (by simp)) _) (by simp; omega)), Lib.hid (HZ2.out.far (by omega) _), Lib.hid hset, Lib.hid (H52.out.set (by omega) (by omega)), Lib.hid (fun y hy => (List.mem_append.1 hy).elim (HY.out y) (fun h => by simp at h; subst h; exact okx.out)), HC2⟩
          case measure => simp [intOf]
      · go_wp2_with fail
        refine (numP B b restk _ HRr.out).mono ?_
        rintro e w2 ⟨hk2, hp⟩
        have HK2 := Lib.hid (HKr.out.trans hk2)
        have HZ2 := Lib.hid (HZ.out.next hk2 (by simp; omega))
        have HQ2 := Lib.hid (HQ.out.next hk2 (by simp; omega))
        have H52 := Lib.hid (H5.out.next hk2 (by simp; omega) (by simp; omega))
        clear hk2
        obtain ⟨r, HP⟩ : ∃ r, Hid (rd restk = r) := ⟨_, rfl⟩
        rw [HP.out] at hp
        rcases r with _ | ⟨x, r'⟩
        · have HN : Hid (insP bs = none) := by
            show _ = _
            rw [ins_rep, HC.out, cont_none HP.out]
          subst hp
          unfold shortE
          go_wp2_with fail
          refine And.intro rfl ?_
          show Rp _ _ _ _ _ _ _
          unfold Rp
          rw [HN.out]
          exact ⟨HK2.out, rfl⟩
        · have HC2 := Lib.hid (HC.out.trans (cont_some HP.out))
          obtain ⟨v, rfl, hvx, hR2⟩ := hp
          unfold RInt at hvx
          subst hvx
          have okx := Lib.hid (rd_wrote _ _ _ HP.out).2
          have hea := eats_rd _ _ _ HP.out
          have H2 := Lib.hid hR2
          obtain ⟨q1, q2⟩ := HQ2.out 2 (by omega)
          simp only [Nat.zero_add] at q1 q2
          have hb2 := hR2.lt
          have hs2 := HK2.out.size
          clear hR2
          go_wp2_with fail
          go_roundw
          case rel =>
            have hset := HQ2.out.set (k := 2) hyl.out.symm x (by omega)
            simp only [Nat.zero_add] at hset
            exact ⟨2 + 1, ys ++ [x], r', by omega, by omega, rfl, Lib.hid (by rw [List.length_append, hyl.out]; rfl), Lib.hid (HK2.out.setCell (.inr (by simp)) _), Lib.hid (H2.out.next (X := [w.heap.size + 1]) ((Wk.refl _ _).setCell (.inl (by simp)) _) (by simp; omega)), Lib.hid (HZ2.out.far (by omega) _), Lib.hid hset, Lib.hid (H52.out.set (by omega) (by omega)), Lib.hid (fun y hy => (List.mem_append.1 hy).elim (HY.out y) (fun h => by simp at h; subst h; exact okx.out)), HC2⟩
          case measure => simp [intOf]
      · go_wp2_with fail
        refine (numP B b restk _ HRr.out).mono ?_
        rintro e w2 ⟨hk2, hp⟩
        have HK2 := Lib.hid (HKr.out.trans hk2)
        have HZ2 := Lib.hid (HZ.out.next hk2 (by simp; omega))
        have HQ2 := Lib.hid (HQ.out.next hk2 (by simp; omega))
        have H52 := Lib.hid (H5.out.next hk2 (by simp; omega) (by simp; omega))
        clear hk2
        obtain ⟨r, HP⟩ : ∃ r, Hid (rd restk = r) := ⟨_, rfl⟩
        rw [HP.out] at hp
        rcases r with _ | ⟨x, r'⟩
        · have HN : Hid (insP bs = none) := by
            show _ = _
            rw [ins_rep, HC.out, cont_none HP.out]
          subst hp
          unfold shortE
          go_wp2_with fail
          refine And.intro rfl ?_
          show Rp _ _ _ _ _ _ _
          unfold Rp
          rw [HN.out]
          exact ⟨HK2.out, rfl⟩
        · have HC2 := Lib.hid (HC.out.trans (cont_some HP.out))
          obtain ⟨v, rfl, hvx, hR2⟩ := hp
          unfold RInt at hvx
          subst hvx
          have okx := Lib.hid (rd_wrote _ _ _ HP.out).2
          have hea := eats_rd _ _ _ HP.out
          have H2 := Lib.hid hR2
          obtain ⟨q1, q2⟩ := HQ2.out 3 (by omega)
          simp only [Nat.zero_add] at q1 q2
          have hb2 := hR2.lt
          have hs2 := HK2.out.size
          clear hR2
          go_wp2_with fail
          go_roundw
          case rel =>
            have hset := HQ2.out.set (k := 3) hyl.out.symm x (by omega)
            simp only [Nat.zero_add] at hset
            exact ⟨3 + 1, ys ++ [x], r', by omega, by omega, rfl, Lib.hid (by rw [List.length_append, hyl.out]; rfl), Lib.hid (HK2.out.setCell (.inr (by simp)) _), Lib.hid (H2.out.next (X := [w.heap.size + 1]) ((Wk.refl _ _).setCell (.inl (by simp)) _) (by simp; omega)), Lib.hid (HZ2.out.far (by omega) _), Lib.hid hset, Lib.hid (H52.out.set (by omega) (by omega)), Lib.hid (fun y hy => (List.mem_append.1 hy).elim (HY.out y) (fun h => by simp at h; subst h; exact okx.out)), HC2⟩
          case measure => simp [intOf]
    · obtain rfl : k = 4 := by omega
      have HN : Hid (insP bs = Bytes.bind rd (fun n => Bytes.bind (lstP rd) fun a => ret ⟨ys.getD 0 0, ys.getD 1 0, ys.getD 2 0, ys.getD 3 0, n, a⟩) restk) := by
        show _ = _
        rw [ins_rep, HC.out, Nat.sub_self, cont_zero]
      have hok : Hid (∀ j, j < 4 → Ok (ys.getD j 0)) := fun j hj => by
        have := hyl.out
        have hj' : j < ys.length := by omega
        have e : ys.getD j 0 = ys[j] := by simp [List.getD, hj']
        rw [e]
        exact HY.out _ (List.getElem_mem _)
      go_wp2_with fail
      refine (wideP B b restk _ HRr.out).mono ?_
      rintro e w2 ⟨hk2, hp⟩
      have HK2 := Lib.hid (HKr.out.trans hk2)
      have HZ2 := Lib.hid (HZ.out.next hk2 (by simp; omega))
      have HQ2 := Lib.hid (HQ.out.next hk2 (by simp; omega))
      have H52 := Lib.hid (H5.out.next hk2 (by simp; omega) (by simp; omega))
      clear hk2
      obtain ⟨r, HP⟩ : ∃ r, Hid (rd restk = r) := ⟨_, rfl⟩
      rw [HP.out] at hp
      rcases r with _ | ⟨x, r'⟩
      · have HN2 : Hid (insP bs = none) := HN.out.trans (bind_none HP.out)
        subst hp
        unfold shortE
        go_wp2_with fail
        refine And.intro rfl ?_
        show Rp _ _ _ _ _ _ _
        unfold Rp
        rw [HN2.out]
        exact ⟨HK2.out, rfl⟩
      · have HN2 : Hid (insP bs = Bytes.bind (lstP rd) (fun a => ret ⟨ys.getD 0 0, ys.getD 1 0, ys.getD 2 0, ys.getD 3 0, x, a⟩) r') := HN.out.trans (bind_of HP.out)
        obtain ⟨v, rfl, hvx, hR2⟩ := hp
        unfold RInt at hvx
        subst hvx
        have okx := Lib.hid (rd_wrote _ _ _ HP.out).2
        have hea := eats_rd _ _ _ HP.out
        have H2 := Lib.hid hR2
        obtain ⟨q1, q2⟩ := HQ2.out 4 (by omega)
        simp only [Nat.zero_add] at q1 q2
        have hs2 := HK2.out.size
        clear hR2
        have hset := HQ2.out.set (k := 4) hyl.out.symm x (by omega)
        simp only [Nat.zero_add] at hset
        have HQ3 := Lib.hid hset
        have HZ3 := Lib.hid (HZ2.out.far (b2 := w.heap.size + 1) (o2 := 4) (by omega) (.int .i64 x))
        have H53 := Lib.hid (H52.out.set (o := 4) (x := .int .i64 x) (by omega) (by omega))
        have HK3 := Lib.hid (HK2.out.setCell (p := ⟨w.heap.size + 1, 4, none⟩) (.inr (by simp)) (.int .i64 x))
        have H3 := Lib.hid (H2.out.next (X := [w.heap.size + 1]) ((Wk.refl _ _).setCell (p := ⟨w.heap.size + 1, 4, none⟩) (.inl (by simp)) (.int .i64 x)) (by simp; omega))
        clear hset
        go_wp2_with fail
        refine callsR (fun W => Hid (Wk [b] w W) ∧ Hid (Rdr W B b r') ∧ Hid (Quad W w.heap.size 0 5 []) ∧ Hid (Quad W (w.heap.size + 1) 0 5 (ys ++ [x])) ∧ Hid (Sixth W w.heap.size (w.heap.size + 1))) ⟨HK3, H3, HZ3, HQ3, H53⟩ ?_
        rintro W ⟨HK4, H4, HZ4, HQ4, H54⟩
        clear HK3 H3 HZ3 HQ3 H53 HQ2 HZ2 H52 H2 q1 q2
        refine (itemsInt B b r' W H4.out (by omega)).mono ?_
        rintro e w5 ⟨hk5, hp⟩
        have HK5 := Lib.hid (HK4.out.trans hk5)
        have HZ5 := Lib.hid (HZ4.out.next hk5 (by simp; omega))
        have HQ5 := Lib.hid (HQ4.out.next hk5 (by simp; omega))
        have H55 := Lib.hid (H54.out.next hk5 (by simp; omega) (by simp; omega))
        have hW := HK4.out.size
        have hWq := lt_cell' H54.out.2.1
        clear hk5
        obtain ⟨r, HP2⟩ : ∃ r, Hid (lstP rd r' = r) := ⟨_, rfl⟩
        rw [HP2.out] at hp
        rcases r with _ | ⟨l, r5⟩
        · have HN3 : Hid (insP bs = none) := HN2.out.trans (bind_none HP2.out)
          subst hp
          unfold shortE
          go_wp2_with fail
          refine And.intro rfl ?_
          show Rp _ _ _ _ _ _ _
          unfold Rp
          rw [HN3.out]
          exact ⟨HK5.out, rfl⟩
        · have HN3 : Hid (insP bs = some (⟨ys.getD 0 0, ys.getD 1 0, ys.getD 2 0, ys.getD 3 0, x, l⟩, r5)) := HN2.out.trans (bind_of HP2.out)
          obtain ⟨v, rfl, hsl, hR5⟩ := hp
          have HSL := Lib.hid hsl
          obtain ⟨aa, acap, rfl, _, _, _⟩ := hsl
          have H6 := Lib.hid hR5
          obtain ⟨⟨s1, s2⟩, ⟨s3, s4⟩⟩ := H55.out
          obtain ⟨q0, _⟩ := HQ5.out 0 (by omega)
          obtain ⟨q1, _⟩ := HQ5.out 1 (by omega)
          obtain ⟨q2, _⟩ := HQ5.out 2 (by omega)
          obtain ⟨q3, _⟩ := HQ5.out 3 (by omega)
          obtain ⟨q4, _⟩ := HQ5.out 4 (by omega)
          obtain ⟨z0, f0⟩ := HZ5.out 0 (by omega)
          obtain ⟨z1, f1⟩ := HZ5.out 1 (by omega)
          obtain ⟨z2, f2⟩ := HZ5.out 2 (by omega)
          obtain ⟨z3, f3⟩ := HZ5.out 3 (by omega)
          obtain ⟨z4, f4⟩ := HZ5.out 4 (by omega)
          simp only [Nat.zero_add] at q0 q1 q2 q3 q4 z0 z1 z2 z3 z4 f0 f1 f2 f3 f4
          have e0 : Hid ((ys ++ [x]).getD 0 0 = ys.getD 0 0) := getD_app hyl.out (by omega)
          have e1 : Hid ((ys ++ [x]).getD 1 0 = ys.getD 1 0) := getD_app hyl.out (by omega)
          have e2 : Hid ((ys ++ [x]).getD 2 0 = ys.getD 2 0) := getD_app hyl.out (by omega)
          have e3 : Hid ((ys ++ [x]).getD 3 0 = ys.getD 3 0) := getD_app hyl.out (by omega)
          have e4 : Hid ((ys ++ [x]).getD 4 0 = x) := by show _ = _; have := hyl.out; simp [List.getD, ← this]
          rw [e0.out] at q0; rw [e1.out] at q1; rw [e2.out] at q2; rw [e3.out] at q3; rw [e4.out] at q4
          have hNN : ¬ w.heap.size = w.heap.size + 1 := by omega
          clear hR5
          go_wp2_with fail
          refine bodyPost_ret (v := .agg #[.int .i64 (ys.getD 0 0), .int .i64 (ys.getD 1 0), .int .i64 (ys.getD 2 0), .int .i64 (ys.getD 3 0), .int .i64 x, .slice aa l.length acap]) (by simp [results, Try.results85, go_sem]; go_simp) rfl ?_
          unfold Rp
          rw [HN3.out]
          have hfin : Wk [w.heap.size, w.heap.size + 1] w5 _ := (((((((Wk.refl [w.heap.size, w.heap.size + 1] w5).setCell (p := ⟨w.heap.size + 1, 5, none⟩) (.inl (by simp)) (.slice aa l.length acap)).setCell (p := ⟨w.heap.size, 0, none⟩) (.inl (by simp)) (.int .i64 (ys.getD 0 0))).setCell (p := ⟨w.heap.size, 1, none⟩) (.inl (by simp)) (.int .i64 (ys.getD 1 0))).setCell (p := ⟨w.heap.size, 2, none⟩) (.inl (by simp)) (.int .i64 (ys.getD 2 0))).setCell (p := ⟨w.heap.size, 3, none⟩) (.inl (by simp)) (.int .i64 (ys.getD 3 0))).setCell (p := ⟨w.heap.size, 4, none⟩) (.inl (by simp)) (.int .i64 x)).setCell (p := ⟨w.heap.size, 5, none⟩) (.inl (by simp)) (.slice aa l.length acap)
          have hz5 := hfin.size
          refine ⟨HK5.out.trans' hfin (fun y hy => .inr (by simp at hy; omega)), _, rfl, ⟨_, rfl, _, rfl, ⟨hok.out 0 (by omega), hok.out 1 (by omega), hok.out 2 (by omega), hok.out 3 (by omega), okx.out⟩, HSL.out.stays sInt (fun k hk => ?_)⟩, H6.out.next hfin (fun y hy => by simp at hy; omega)⟩
          obtain ⟨k1, k2⟩ := hk
          exact ⟨⟨by omega, Nat.lt_of_lt_of_le k2 hz5⟩, hfin.block k k2 (by simp; omega)⟩
end Wire
end Go.Proofs.Ytncmhenfgbcihab
