/- Reading bytes: lists of what is read. -/
import Derived.Test.YtncmhenfgbcihabRdrQ
import Derived.Deep.AppendLies
namespace Go.Proofs.Ytncmhenfgbcihab
open Go.RowKit
set_option linter.unusedSimpArgs false
set_option linter.unusedVariables false
namespace Wire
open Num Rd D Bytes HierW

theorem info_Int : (Try.prog.info? 3).map (fun i => (i.zero, i.size, i.bytes)) = some (some (.int .i64 0), 1, 8) := by kernel_rfl
set_option maxRecDepth 100000 in
set_option maxHeartbeats 4000000 in
theorem itemsInt (B b : Nat) (bs : List UInt8) (w : World) (h : Rdr w B b bs) (hlen : bs.length ≤ 4000000) :
    Calls Try.prog 140 #[.pointer (some ⟨b, 0, none⟩), .func (Fn.func 81) #[.pointer (some ⟨b, 0, none⟩)] #[]] w (Rp (lstP rd bs) (RL VInt 1 w.heap.size) B b w) := by
  obtain ⟨i0, hi, hz0, hz1, hz2⟩ := info_parts info_Int
  have hR := Lib.hid h
  have hlt := h.lt
  clear h
  go_enter Try.func140, Try.ntmps140
  go_wp2_with fail
  refine (numP B b bs _ hR.out).mono ?_
  rintro e w1 ⟨hk, hp⟩
  have HK := Lib.hid hk
  have hw1s := hk.size
  clear hk
  obtain ⟨r, HR⟩ : ∃ r, Hid (rd bs = r) := ⟨_, rfl⟩
  rw [HR.out] at hp
  rcases r with _ | ⟨n, rest⟩
  · have HQ : Hid (lstP rd bs = none) := lst_none HR.out
    subst hp
    unfold shortE
    go_wp2_with fail
    refine And.intro rfl ?_
    show Rp _ _ _ _ _ _ _
    unfold Rp
    rw [HQ.out]
    exact ⟨HK.out, rfl⟩
  obtain ⟨v, rfl, hvn, hR1⟩ := hp
  unfold RInt at hvn
  subst hvn
  have H1 := Lib.hid hR1
  have hrl := eats_rd _ _ _ HR.out
  have hlt1 := hR1.lt
  obtain ⟨hB, v, hc, hf, a, cap, rfl, hlc, hcc, _⟩ := hR1
  have okn := (rd_wrote _ _ _ HR.out).2
  unfold Ok at okn
  by_cases hneg : n < 0
  · have HQ : Hid (lstP rd bs = none) := lst_neg HR.out hneg
    have hnb : decide (n < 0) = true := by simp [hneg]
    go_wp2_with fail
    refine And.intro rfl ?_
    show Rp _ _ _ _ _ _ _
    unfold Rp
    rw [HQ.out]
    exact ⟨HK.out, rfl⟩
  have hneg2 : 0 ≤ n := by omega
  have hnb : decide (n < 0) = false := by simp [hneg2]
  by_cases hbig : (rest.length : Int) / 8 < n
  · have HQ : Hid (lstP rd bs = none) := lst_big eats_rd HR.out hbig
    have hbb : decide ((rest.length : Int) / 8 < n) = true := by simp [hbig]
    go_wp2_with fail
    refine And.intro rfl ?_
    show Rp _ _ _ _ _ _ _
    unfold Rp
    rw [HQ.out]
    exact ⟨HK.out, rfl⟩
  have hbb : decide ((rest.length : Int) / 8 < n) = false := by simp; omega
  have HQ0 := Lib.hid (cont_start (p := rd) HR.out (by omega))
  have hn5 : n ≤ 500000 := by omega
  go_wp2_with fail
  clear hnb hbb hc hf hlc hcc
  go_loopw [6, 24] (fun v i wr => ∃ (k : Nat) (acc : List Int) (xs : List Value) (restk : List UInt8), (k : Int) ≤ n ∧ restk.length ≤ 4000000 ∧ i = .int .i64 k ∧ Hid (acc.length = k) ∧ Hid (Wk [b] w wr) ∧ Hid (Rdr wr B b restk) ∧ Hid (wr.ownsRow w.heap.size 3 1 v acc.length xs) ∧ Hid (Row VInt 1 wr (Rw w.heap.size wr v) xs acc) ∧ Hid (lstP rd bs = Cont rd (n.toNat - k) acc restk)) (fun _ i _ => n.toNat - (intOf i).toNat)
  case atStart => exact ⟨0, [], [], rest, by omega, by omega, rfl, rfl, HK, H1, World.ownsRow_nil _ _ _ _, Row.nil _ _ _ _, HQ0⟩
  case round =>
    obtain ⟨k, acc, xs, restk, hk, hrk, rfl, hacc, HKr, HRr, HOr, HWr, HQr⟩ := hrel
    have hsz := HKr.out.size
    have hbl := HRr.out.lt
    have hal : acc.length ≤ 500000 := by have := hacc.out; omega
    by_cases hlt2 : (k : Int) < n
    · go_wp2_with fail
      refine (numP B b restk _ HRr.out).mono ?_
      rintro e w2 ⟨hk2, hp⟩
      have hk2s := hk2.size
      have HKc := Lib.hid hk2
      have HK2 := Lib.hid (HKr.out.trans hk2)
      clear hk2
      obtain ⟨r, HP⟩ : ∃ r, Hid (rd restk = r) := ⟨_, rfl⟩
      rw [HP.out] at hp
      rcases r with _ | ⟨x, r'⟩
      · have HQ2 : Hid (lstP rd bs = none) := HQr.out.trans (by rw [show n.toNat - k = (n.toNat - (k + 1)) + 1 by omega]; exact cont_none HP.out)
        subst hp
        unfold shortE
        go_wp2_with fail
        refine And.intro rfl ?_
        show Rp _ _ _ _ _ _ _
        unfold Rp
        rw [HQ2.out]
        exact ⟨HK2.out, rfl⟩
      · have HQ2 : Hid (lstP rd bs = Cont rd (n.toNat - (k + 1)) (acc ++ [x]) r') := HQr.out.trans (by rw [show n.toNat - k = (n.toNat - (k + 1)) + 1 by omega]; exact cont_some HP.out)
        have her := eats_rd _ _ _ HP.out
        obtain ⟨v, rfl, hvx, hR2⟩ := hp
        unfold RInt at hvx
        subst hvx
        have hV : VInt w2 (Nw wr.heap.size w2.heap.size) [.int .i64 x] x := ⟨rfl, (rd_wrote _ _ _ HP.out).2⟩
        have HV := Lib.hid hV
        have H2 := Lib.hid hR2
        have HO2 := Lib.hid (own_keep HOr.out HKc.out (by simp; exact fun g hg e => by have := (HOr.out.lt g hg).1; omega))
        clear hV hR2
        go_wp2_with (at_builtin; refine wpList_append_lies _ rfl (.tmp 26) (.tmp 29) 61 rfl w.heap.size 3 i0 (.int .i64 0) 1 8 Try.underlying61 hi hz0 hz1 hz2 rfl (by decide) _ acc.length xs (by simp [Act.eval, Act.put]) (HO2.out.alloc _) ⟨w2.heap.size, 0, none⟩ 1 1 [.int .i64 x] (by simp [Act.eval, Act.put]) rfl (by exact news_at _ _ _) (by simp [Value.oneCell']) (by decide) (by unfold maxLen; omega) (by omega) (by simp; omega) _ rfl ?_; intro g2 cap2 w3 hown3 hgrow3 hat3 hlt3; have HA := Lib.hid (item_added HK2.out H2.out HO2.out HWr.out HKc.out hlt hsz (fun g hg => (HOr.out.lt g hg).2) HV.out sInt rfl hown3 hgrow3 hat3); clear hown3 hgrow3 hat3)
        obtain ⟨a1, a2, a3, a4⟩ := HA.out
        have A1 := Lib.hid a1; have A2 := Lib.hid a2; have A3 := Lib.hid a3; have A4 := Lib.hid a4
        clear a1 a2 a3 a4 HA hlt3
        have hlen2 : acc.length + 1 = (acc ++ [x]).length := by simp
        have HL2 := Lib.hid hlen2
        clear hlen2
        go_wp2_with fail
        go_roundw
        case rel => exact ⟨k + 1, acc ++ [x], _, r', by omega, by omega, by go_num, Lib.hid (by have := hacc.out; simp; omega), A1, A2, A3, A4, HQ2⟩
        case measure => simp [intOf]; omega
    · have hkn : n.toNat - k = 0 := by omega
      have HQ2 : Hid (lstP rd bs = some (acc, restk)) := HQr.out.trans (by rw [hkn]; exact cont_zero _ _ _)
      have HS := Lib.hid (Row.sl sInt HWr.out HOr.out (by omega) (P' := Nw w.heap.size _) (fun k hk => ⟨hk.1, hk.2.1⟩) (fun g hg => HOr.out.lt g hg))
      clear hkn
      go_wp2_with fail
      go_ret
      unfold Rp
      rw [HQ2.out]
      exact ⟨HKr.out, _, rfl, HS.out, HRr.out⟩


theorem info_Ty : (Try.prog.info? 51).map (fun i => (i.zero, i.size, i.bytes)) = some (some (.agg #[.int .i64 0, .int .i64 0]), 2, 16) := by kernel_rfl
set_option maxRecDepth 100000 in
set_option maxHeartbeats 4000000 in
theorem itemsTy (B b : Nat) (bs : List UInt8) (w : World) (h : Rdr w B b bs) (hlen : bs.length ≤ 4000000) :
    Calls Try.prog 82 #[.pointer (some ⟨b, 0, none⟩), .func (Fn.func 83) #[.pointer (some ⟨b, 0, none⟩)] #[]] w (Rp (lstP tyP bs) (RL VTy 2 w.heap.size) B b w) := by
  obtain ⟨i0, hi, hz0, hz1, hz2⟩ := info_parts info_Ty
  have hR := Lib.hid h
  have hlt := h.lt
  clear h
  go_enter Try.func82, Try.ntmps82
  go_wp2_with fail
  refine (numP B b bs _ hR.out).mono ?_
  rintro e w1 ⟨hk, hp⟩
  have HK := Lib.hid hk
  have hw1s := hk.size
  clear hk
  obtain ⟨r, HR⟩ : ∃ r, Hid (rd bs = r) := ⟨_, rfl⟩
  rw [HR.out] at hp
  rcases r with _ | ⟨n, rest⟩
  · have HQ : Hid (lstP tyP bs = none) := lst_none HR.out
    subst hp
    unfold shortE
    go_wp2_with fail
    refine And.intro rfl ?_
    show Rp _ _ _ _ _ _ _
    unfold Rp
    rw [HQ.out]
    exact ⟨HK.out, rfl⟩
  obtain ⟨v, rfl, hvn, hR1⟩ := hp
  unfold RInt at hvn
  subst hvn
  have H1 := Lib.hid hR1
  have hrl := eats_rd _ _ _ HR.out
  have hlt1 := hR1.lt
  obtain ⟨hB, v, hc, hf, a, cap, rfl, hlc, hcc, _⟩ := hR1
  have okn := (rd_wrote _ _ _ HR.out).2
  unfold Ok at okn
  by_cases hneg : n < 0
  · have HQ : Hid (lstP tyP bs = none) := lst_neg HR.out hneg
    have hnb : decide (n < 0) = true := by simp [hneg]
    go_wp2_with fail
    refine And.intro rfl ?_
    show Rp _ _ _ _ _ _ _
    unfold Rp
    rw [HQ.out]
    exact ⟨HK.out, rfl⟩
  have hneg2 : 0 ≤ n := by omega
  have hnb : decide (n < 0) = false := by simp [hneg2]
  by_cases hbig : (rest.length : Int) / 8 < n
  · have HQ : Hid (lstP tyP bs = none) := lst_big eats_ty HR.out hbig
    have hbb : decide ((rest.length : Int) / 8 < n) = true := by simp [hbig]
    go_wp2_with fail
    refine And.intro rfl ?_
    show Rp _ _ _ _ _ _ _
    unfold Rp
    rw [HQ.out]
    exact ⟨HK.out, rfl⟩
  have hbb : decide ((rest.length : Int) / 8 < n) = false := by simp; omega
  have HQ0 := Lib.hid (cont_start (p := tyP) HR.out (by omega))
  have hn5 : n ≤ 500000 := by omega
  go_wp2_with fail
  clear hnb hbb hc hf hlc hcc
  go_loopw [6, 24] (fun v i wr => ∃ (k : Nat) (acc : List Ty) (xs : List Value) (restk : List UInt8), (k : Int) ≤ n ∧ restk.length ≤ 4000000 ∧ i = .int .i64 k ∧ Hid (acc.length = k) ∧ Hid (Wk [b] w wr) ∧ Hid (Rdr wr B b restk) ∧ Hid (wr.ownsRow w.heap.size 51 2 v acc.length xs) ∧ Hid (Row VTy 2 wr (Rw w.heap.size wr v) xs acc) ∧ Hid (lstP tyP bs = Cont tyP (n.toNat - k) acc restk)) (fun _ i _ => n.toNat - (intOf i).toNat)
  case atStart => exact ⟨0, [], [], rest, by omega, by omega, rfl, rfl, HK, H1, World.ownsRow_nil _ _ _ _, Row.nil _ _ _ _, HQ0⟩
  case round =>
    obtain ⟨k, acc, xs, restk, hk, hrk, rfl, hacc, HKr, HRr, HOr, HWr, HQr⟩ := hrel
    have hsz := HKr.out.size
    have hbl := HRr.out.lt
    have hal : acc.length ≤ 500000 := by have := hacc.out; omega
    by_cases hlt2 : (k : Int) < n
    · go_wp2_with fail
      refine (kindP B b restk _ HRr.out).mono ?_
      rintro e w2 ⟨hk2, hp⟩
      have hk2s := hk2.size
      have HKc := Lib.hid hk2
      have HK2 := Lib.hid (HKr.out.trans hk2)
      clear hk2
      obtain ⟨r, HP⟩ : ∃ r, Hid (tyP restk = r) := ⟨_, rfl⟩
      rw [HP.out] at hp
      rcases r with _ | ⟨x, r'⟩
      · have HQ2 : Hid (lstP tyP bs = none) := HQr.out.trans (by rw [show n.toNat - k = (n.toNat - (k + 1)) + 1 by omega]; exact cont_none HP.out)
        subst hp
        unfold shortE
        go_wp2_with fail
        refine And.intro rfl ?_
        show Rp _ _ _ _ _ _ _
        unfold Rp
        rw [HQ2.out]
        exact ⟨HK2.out, rfl⟩
      · have HQ2 : Hid (lstP tyP bs = Cont tyP (n.toNat - (k + 1)) (acc ++ [x]) r') := HQr.out.trans (by rw [show n.toNat - k = (n.toNat - (k + 1)) + 1 by omega]; exact cont_some HP.out)
        have her := eats_ty _ _ _ HP.out
        obtain ⟨v, rfl, ⟨cs, rfl, hV⟩, hR2⟩ := hp
        have hV' := Lib.hid hV
        obtain ⟨rfl, okx⟩ := hV
        have hV := hV'.out
        clear hV'
        have HV := Lib.hid hV
        have H2 := Lib.hid hR2
        have HO2 := Lib.hid (own_keep HOr.out HKc.out (by simp; exact fun g hg e => by have := (HOr.out.lt g hg).1; omega))
        clear hV hR2
        go_wp2_with (at_builtin; refine wpList_append_lies _ rfl (.tmp 26) (.tmp 29) 49 rfl w.heap.size 51 i0 (.agg #[.int .i64 0, .int .i64 0]) 2 16 Try.underlying49 hi hz0 hz1 hz2 rfl (by decide) _ acc.length xs (by simp [Act.eval, Act.put]) (HO2.out.alloc _) ⟨w2.heap.size, 0, none⟩ 1 1 [.int .i64 x.kind, .int .i64 x.cls] (by simp [Act.eval, Act.put]) rfl (by exact news_at _ _ _) (by simp [Value.oneCell']) (by decide) (by unfold maxLen; omega) (by omega) (by simp; omega) _ rfl ?_; intro g2 cap2 w3 hown3 hgrow3 hat3 hlt3; have HA := Lib.hid (item_added HK2.out H2.out HO2.out HWr.out HKc.out hlt hsz (fun g hg => (HOr.out.lt g hg).2) HV.out sTy rfl hown3 hgrow3 hat3); clear hown3 hgrow3 hat3)
        obtain ⟨a1, a2, a3, a4⟩ := HA.out
        have A1 := Lib.hid a1; have A2 := Lib.hid a2; have A3 := Lib.hid a3; have A4 := Lib.hid a4
        clear a1 a2 a3 a4 HA hlt3
        have hlen2 : acc.length + 1 = (acc ++ [x]).length := by simp
        have HL2 := Lib.hid hlen2
        clear hlen2
        go_wp2_with fail
        go_roundw
        case rel => exact ⟨k + 1, acc ++ [x], _, r', by omega, by omega, by go_num, Lib.hid (by have := hacc.out; simp; omega), A1, A2, A3, A4, HQ2⟩
        case measure => simp [intOf]; omega
    · have hkn : n.toNat - k = 0 := by omega
      have HQ2 : Hid (lstP tyP bs = some (acc, restk)) := HQr.out.trans (by rw [hkn]; exact cont_zero _ _ _)
      have HS := Lib.hid (Row.sl sTy HWr.out HOr.out (by omega) (P' := Nw w.heap.size _) (fun k hk => ⟨hk.1, hk.2.1⟩) (fun g hg => HOr.out.lt g hg))
      clear hkn
      go_wp2_with fail
      go_ret
      unfold Rp
      rw [HQ2.out]
      exact ⟨HKr.out, _, rfl, HS.out, HRr.out⟩

end Wire
end Go.Proofs.Ytncmhenfgbcihab
