/- Reading bytes: lists of handlers and instructions; classes, methods, and lists of them. -/
import Derived.Test.YtncmhenfgbcihabRdrJ
import Derived.Deep.AppendLies
namespace Go.Proofs.Ytncmhenfgbcihab
open Go.RowKit
set_option linter.unusedSimpArgs false
set_option linter.unusedVariables false
namespace Wire
open Num Rd D Bytes HierW

theorem info_Hd : (Try.prog.info? 90).map (fun i => (i.zero, i.size, i.bytes)) = some (some (.agg #[.int .i64 0, .int .i64 0, .int .i64 0, .int .i64 0]), 4, 32) := by kernel_rfl
set_option maxRecDepth 100000 in
set_option maxHeartbeats 4000000 in
theorem itemsHd (B b : Nat) (bs : List UInt8) (w : World) (h : Rdr w B b bs) (hlen : bs.length ≤ 4000000) :
    Calls Try.prog 86 #[.pointer (some ⟨b, 0, none⟩), .func (Fn.func 87) #[.pointer (some ⟨b, 0, none⟩)] #[]] w (Rp (lstP hdP bs) (RL VHd 4 w.heap.size) B b w) := by
  obtain ⟨i0, hi, hz0, hz1, hz2⟩ := info_parts info_Hd
  have hR := Lib.hid h
  have hlt := h.lt
  clear h
  go_enter Try.func86, Try.ntmps86
  go_wp2_with fail
  refine (numP B b bs _ hR.out).mono ?_
  rintro e w1 ⟨hk, hp⟩
  have HK := Lib.hid hk
  have hw1s := hk.size
  clear hk
  obtain ⟨r, HR⟩ : ∃ r, Hid (rd bs = r) := ⟨_, rfl⟩
  rw [HR.out] at hp
  rcases r with _ | ⟨n, rest⟩
  · have HQ : Hid (lstP hdP bs = none) := lst_none HR.out
    subst hp
    unfold shortE
    go_wp2_with fail
    refine And.intro rfl ?_
    show Rp _ _ _ _ _ _ _
    unfold Rp
    rw [HQ.out]
    exact ⟨HK.out, rfl⟩
  obtain ⟨v, rfl, hvn, hR1⟩ := hp
  unfold RInt at hvn
  subst hvn
  have H1 := Lib.hid hR1
  have hrl := eats_rd _ _ _ HR.out
  have hlt1 := hR1.lt
  obtain ⟨hB, v, hc, hf, a, cap, rfl, hlc, hcc, _⟩ := hR1
  have okn := (rd_wrote _ _ _ HR.out).2
  unfold Ok at okn
  by_cases hneg : n < 0
  · have HQ : Hid (lstP hdP bs = none) := lst_neg HR.out hneg
    have hnb : decide (n < 0) = true := by simp [hneg]
    go_wp2_with fail
    refine And.intro rfl ?_
    show Rp _ _ _ _ _ _ _
    unfold Rp
    rw [HQ.out]
    exact ⟨HK.out, rfl⟩
  have hneg2 : 0 ≤ n := by omega
  have hnb : decide (n < 0) = false := by simp [hneg2]
  by_cases hbig : (rest.length : Int) / 8 < n
  · have HQ : Hid (lstP hdP bs = none) := lst_big eats_hd HR.out hbig
    have hbb : decide ((rest.length : Int) / 8 < n) = true := by simp [hbig]
    go_wp2_with fail
    refine And.intro rfl ?_
    show Rp _ _ _ _ _ _ _
    unfold Rp
    rw [HQ.out]
    exact ⟨HK.out, rfl⟩
  have hbb : decide ((rest.length : Int) / 8 < n) = false := by simp; omega
  have HQ0 := Lib.hid (cont_start (p := hdP) HR.out (by omega))
  have hn5 : n ≤ 500000 := by omega
  go_wp2_with fail
  clear hnb hbb hc hf hlc hcc
  go_loopw [6, 24] (fun v i wr => ∃ (k : Nat) (acc : List Hd) (xs : List Value) (restk : List UInt8), (k : Int) ≤ n ∧ restk.length ≤ 4000000 ∧ i = .int .i64 k ∧ Hid (acc.length = k) ∧ Hid (Wk [b] w wr) ∧ Hid (Rdr wr B b restk) ∧ Hid (wr.ownsRow w.heap.size 90 4 v acc.length xs) ∧ Hid (Row VHd 4 wr (Rw w.heap.size wr v) xs acc) ∧ Hid (lstP hdP bs = Cont hdP (n.toNat - k) acc restk)) (fun _ i _ => n.toNat - (intOf i).toNat)
  case atStart => exact ⟨0, [], [], rest, by omega, by omega, rfl, rfl, HK, H1, World.ownsRow_nil _ _ _ _, Row.nil _ _ _ _, HQ0⟩
  case round =>
    obtain ⟨k, acc, xs, restk, hk, hrk, rfl, hacc, HKr, HRr, HOr, HWr, HQr⟩ := hrel
    have hsz := HKr.out.size
    have hbl := HRr.out.lt
    have hal : acc.length ≤ 500000 := by have := hacc.out; omega
    by_cases hlt2 : (k : Int) < n
    · go_wp2_with fail
      refine (handlerP B b restk _ HRr.out).mono ?_
      rintro e w2 ⟨hk2, hp⟩
      have hk2s := hk2.size
      have HKc := Lib.hid hk2
      have HK2 := Lib.hid (HKr.out.trans hk2)
      clear hk2
      obtain ⟨r, HP⟩ : ∃ r, Hid (hdP restk = r) := ⟨_, rfl⟩
      rw [HP.out] at hp
      rcases r with _ | ⟨x, r'⟩
      · have HQ2 : Hid (lstP hdP bs = none) := HQr.out.trans (by rw [show n.toNat - k = (n.toNat - (k + 1)) + 1 by omega]; exact cont_none HP.out)
        subst hp
        unfold shortE
        go_wp2_with fail
        refine And.intro rfl ?_
        show Rp _ _ _ _ _ _ _
        unfold Rp
        rw [HQ2.out]
        exact ⟨HK2.out, rfl⟩
      · have HQ2 : Hid (lstP hdP bs = Cont hdP (n.toNat - (k + 1)) (acc ++ [x]) r') := HQr.out.trans (by rw [show n.toNat - k = (n.toNat - (k + 1)) + 1 by omega]; exact cont_some HP.out)
        have her := eats_hd _ _ _ HP.out
        obtain ⟨v, rfl, ⟨cs, rfl, hV⟩, hR2⟩ := hp
        have hV' := Lib.hid hV
        obtain ⟨rfl, okx⟩ := hV
        have hV := hV'.out
        clear hV'
        have HV := Lib.hid hV
        have H2 := Lib.hid hR2
        have HO2 := Lib.hid (own_keep HOr.out HKc.out (by simp; exact fun g hg e => by have := (HOr.out.lt g hg).1; omega))
        clear hV hR2
        go_wp2_with (at_builtin; refine wpList_append_lies _ rfl (.tmp 26) (.tmp 29) 53 rfl w.heap.size 90 i0 (.agg #[.int .i64 0, .int .i64 0, .int .i64 0, .int .i64 0]) 4 32 Try.underlying53 hi hz0 hz1 hz2 rfl (by decide) _ acc.length xs (by simp [Act.eval, Act.put]) (HO2.out.alloc _) ⟨w2.heap.size, 0, none⟩ 1 1 [.int .i64 x.lo, .int .i64 x.hi, .int .i64 x.go, .int .i64 x.cls] (by simp [Act.eval, Act.put]) rfl (by exact news_at _ _ _) (by simp [Value.oneCell']) (by decide) (by unfold maxLen; omega) (by omega) (by simp; omega) _ rfl ?_; intro g2 cap2 w3 hown3 hgrow3 hat3 hlt3; have HA := Lib.hid (item_added HK2.out H2.out HO2.out HWr.out HKc.out hlt hsz (fun g hg => (HOr.out.lt g hg).2) HV.out sHd rfl hown3 hgrow3 hat3); clear hown3 hgrow3 hat3)
        obtain ⟨a1, a2, a3, a4⟩ := HA.out
        have A1 := Lib.hid a1; have A2 := Lib.hid a2; have A3 := Lib.hid a3; have A4 := Lib.hid a4
        clear a1 a2 a3 a4 HA hlt3
        have hlen2 : acc.length + 1 = (acc ++ [x]).length := by simp
        have HL2 := Lib.hid hlen2
        clear hlen2
        go_wp2_with fail
        go_roundw
        case rel => exact ⟨k + 1, acc ++ [x], _, r', by omega, by omega, by go_num, Lib.hid (by have := hacc.out; simp; omega), A1, A2, A3, A4, HQ2⟩
        case measure => simp [intOf]; omega
    · have hkn : n.toNat - k = 0 := by omega
      have HQ2 : Hid (lstP hdP bs = some (acc, restk)) := HQr.out.trans (by rw [hkn]; exact cont_zero _ _ _)
      have HS := Lib.hid (Row.sl sHd HWr.out HOr.out (by omega) (P' := Nw w.heap.size _) (fun k hk => ⟨hk.1, hk.2.1⟩) (fun g hg => HOr.out.lt g hg))
      clear hkn
      go_wp2_with fail
      go_ret
      unfold Rp
      rw [HQ2.out]
      exact ⟨HKr.out, _, rfl, HS.out, HRr.out⟩


theorem info_In : (Try.prog.info? 63).map (fun i => (i.zero, i.size, i.bytes)) = some (some (.agg #[.int .i64 0, .int .i64 0, .int .i64 0, .int .i64 0, .int .i64 0, .slice none 0 0]), 6, 64) := by kernel_rfl
set_option maxRecDepth 100000 in
set_option maxHeartbeats 4000000 in
theorem itemsIn (B b : Nat) (bs : List UInt8) (w : World) (h : Rdr w B b bs) (hlen : bs.length ≤ 4000000) :
    Calls Try.prog 84 #[.pointer (some ⟨b, 0, none⟩), .func (Fn.func 85) #[.pointer (some ⟨b, 0, none⟩)] #[]] w (Rp (lstP insP bs) (RL VIn 6 w.heap.size) B b w) := by
  obtain ⟨i0, hi, hz0, hz1, hz2⟩ := info_parts info_In
  have hR := Lib.hid h
  have hlt := h.lt
  clear h
  go_enter Try.func84, Try.ntmps84
  go_wp2_with fail
  refine (numP B b bs _ hR.out).mono ?_
  rintro e w1 ⟨hk, hp⟩
  have HK := Lib.hid hk
  have hw1s := hk.size
  clear hk
  obtain ⟨r, HR⟩ : ∃ r, Hid (rd bs = r) := ⟨_, rfl⟩
  rw [HR.out] at hp
  rcases r with _ | ⟨n, rest⟩
  · have HQ : Hid (lstP insP bs = none) := lst_none HR.out
    subst hp
    unfold shortE
    go_wp2_with fail
    refine And.intro rfl ?_
    show Rp _ _ _ _ _ _ _
    unfold Rp
    rw [HQ.out]
    exact ⟨HK.out, rfl⟩
  obtain ⟨v, rfl, hvn, hR1⟩ := hp
  unfold RInt at hvn
  subst hvn
  have H1 := Lib.hid hR1
  have hrl := eats_rd _ _ _ HR.out
  have hlt1 := hR1.lt
  obtain ⟨hB, v, hc, hf, a, cap, rfl, hlc, hcc, _⟩ := hR1
  have okn := (rd_wrote _ _ _ HR.out).2
  unfold Ok at okn
  by_cases hneg : n < 0
  · have HQ : Hid (lstP insP bs = none) := lst_neg HR.out hneg
    have hnb : decide (n < 0) = true := by simp [hneg]
    go_wp2_with fail
    refine And.intro rfl ?_
    show Rp _ _ _ _ _ _ _
    unfold Rp
    rw [HQ.out]
    exact ⟨HK.out, rfl⟩
  have hneg2 : 0 ≤ n := by omega
  have hnb : decide (n < 0) = false := by simp [hneg2]
  by_cases hbig : (rest.length : Int) / 8 < n
  · have HQ : Hid (lstP insP bs = none) := lst_big eats_ins HR.out hbig
    have hbb : decide ((rest.length : Int) / 8 < n) = true := by simp [hbig]
    go_wp2_with fail
    refine And.intro rfl ?_
    show Rp _ _ _ _ _ _ _
    unfold Rp
    rw [HQ.out]
    exact ⟨HK.out, rfl⟩
  have hbb : decide ((rest.length : Int) / 8 < n) = false := by simp; omega
  have HQ0 := Lib.hid (cont_start (p := insP) HR.out (by omega))
  have hn5 : n ≤ 500000 := by omega
  go_wp2_with fail
  clear hnb hbb hc hf hlc hcc
  go_loopw [6, 24] (fun v i wr => ∃ (k : Nat) (acc : List Ins) (xs : List Value) (restk : List UInt8), (k : Int) ≤ n ∧ restk.length ≤ 4000000 ∧ i = .int .i64 k ∧ Hid (acc.length = k) ∧ Hid (Wk [b] w wr) ∧ Hid (Rdr wr B b restk) ∧ Hid (wr.ownsRow w.heap.size 63 6 v acc.length xs) ∧ Hid (Row VIn 6 wr (Rw w.heap.size wr v) xs acc) ∧ Hid (lstP insP bs = Cont insP (n.toNat - k) acc restk)) (fun _ i _ => n.toNat - (intOf i).toNat)
  case atStart => exact ⟨0, [], [], rest, by omega, by omega, rfl, rfl, HK, H1, World.ownsRow_nil _ _ _ _, Row.nil _ _ _ _, HQ0⟩
  case round =>
    obtain ⟨k, acc, xs, restk, hk, hrk, rfl, hacc, HKr, HRr, HOr, HWr, HQr⟩ := hrel
    have hsz := HKr.out.size
    have hbl := HRr.out.lt
    have hal : acc.length ≤ 500000 := by have := hacc.out; omega
    by_cases hlt2 : (k : Int) < n
    · go_wp2_with fail
      refine (insPw B b restk _ HRr.out (by omega)).mono ?_
      rintro e w2 ⟨hk2, hp⟩
      have hk2s := hk2.size
      have HKc := Lib.hid hk2
      have HK2 := Lib.hid (HKr.out.trans hk2)
      clear hk2
      obtain ⟨r, HP⟩ : ∃ r, Hid (insP restk = r) := ⟨_, rfl⟩
      rw [HP.out] at hp
      rcases r with _ | ⟨x, r'⟩
      · have HQ2 : Hid (lstP insP bs = none) := HQr.out.trans (by rw [show n.toNat - k = (n.toNat - (k + 1)) + 1 by omega]; exact cont_none HP.out)
        subst hp
        unfold shortE
        go_wp2_with fail
        refine And.intro rfl ?_
        show Rp _ _ _ _ _ _ _
        unfold Rp
        rw [HQ2.out]
        exact ⟨HK2.out, rfl⟩
      · have HQ2 : Hid (lstP insP bs = Cont insP (n.toNat - (k + 1)) (acc ++ [x]) r') := HQr.out.trans (by rw [show n.toNat - k = (n.toNat - (k + 1)) + 1 by omega]; exact cont_some HP.out)
        have her := eats_ins _ _ _ HP.out
        obtain ⟨v, rfl, ⟨cs, rfl, hV⟩, hR2⟩ := hp
        have hV' := Lib.hid hV
        obtain ⟨va, rfl, okx, sva⟩ := hV
        have hV := hV'.out
        clear hV'
        obtain ⟨aa0, cap0, hva, _, _, _⟩ := sva
        subst hva
        have HV := Lib.hid hV
        have H2 := Lib.hid hR2
        have HO2 := Lib.hid (own_keep HOr.out HKc.out (by simp; exact fun g hg e => by have := (HOr.out.lt g hg).1; omega))
        clear hV hR2
        go_wp2_with (at_builtin; refine wpList_append_lies _ rfl (.tmp 26) (.tmp 29) 52 rfl w.heap.size 63 i0 (.agg #[.int .i64 0, .int .i64 0, .int .i64 0, .int .i64 0, .int .i64 0, .slice none 0 0]) 6 64 Try.underlying52 hi hz0 hz1 hz2 rfl (by decide) _ acc.length xs (by simp [Act.eval, Act.put]) (HO2.out.alloc _) ⟨w2.heap.size, 0, none⟩ 1 1 [.int .i64 x.op, .int .i64 x.a, .int .i64 x.b, .int .i64 x.c, .int .i64 x.n, .slice aa0 x.args.length cap0] (by simp [Act.eval, Act.put]) rfl (by exact news_at _ _ _) (by simp [Value.oneCell']) (by decide) (by unfold maxLen; omega) (by omega) (by simp; omega) _ rfl ?_; intro g2 cap2 w3 hown3 hgrow3 hat3 hlt3; have HA := Lib.hid (item_added HK2.out H2.out HO2.out HWr.out HKc.out hlt hsz (fun g hg => (HOr.out.lt g hg).2) HV.out sIn rfl hown3 hgrow3 hat3); clear hown3 hgrow3 hat3)
        obtain ⟨a1, a2, a3, a4⟩ := HA.out
        have A1 := Lib.hid a1; have A2 := Lib.hid a2; have A3 := Lib.hid a3; have A4 := Lib.hid a4
        clear a1 a2 a3 a4 HA hlt3
        have hlen2 : acc.length + 1 = (acc ++ [x]).length := by simp
        have HL2 := Lib.hid hlen2
        clear hlen2
        go_wp2_with fail
        go_roundw
        case rel => exact ⟨k + 1, acc ++ [x], _, r', by omega, by omega, by go_num, Lib.hid (by have := hacc.out; simp; omega), A1, A2, A3, A4, HQ2⟩
        case measure => simp [intOf]; omega
    · have hkn : n.toNat - k = 0 := by omega
      have HQ2 : Hid (lstP insP bs = some (acc, restk)) := HQr.out.trans (by rw [hkn]; exact cont_zero _ _ _)
      have HS := Lib.hid (Row.sl sIn HWr.out HOr.out (by omega) (P' := Nw w.heap.size _) (fun k hk => ⟨hk.1, hk.2.1⟩) (fun g hg => HOr.out.lt g hg))
      clear hkn
      go_wp2_with fail
      go_ret
      unfold Rp
      rw [HQ2.out]
      exact ⟨HKr.out, _, rfl, HS.out, HRr.out⟩


set_option maxRecDepth 100000 in
set_option maxHeartbeats 4000000 in
theorem classP (B b : Nat) (bs : List UInt8) (w : World) (h : Rdr w B b bs) (hlen : bs.length ≤ 4000000) :
    Calls Try.prog 40 #[.pointer (some ⟨b, 0, none⟩)] w (Rp (clP bs) (RS VCl w.heap.size) B b w) := by
  have hR := Lib.hid h
  have hlt := h.lt
  clear h
  go_enter Try.func40, Try.ntmps40
  go_wp2_with fail
  refine (numP B b bs _ (hR.out.alloc _)).mono ?_
  rintro e w1 ⟨hk1, hp⟩
  have HK1 := Lib.hid (((Wk.refl [b] w).alloc _).trans hk1)
  have z0 := hk1.cell (c := w.heap.size) (o := 0) (v := .int .i64 0) (by go_simp) (by simp; omega)
  have z1 := hk1.cell (c := w.heap.size) (o := 1) (v := .slice none 0 0) (by go_simp) (by simp; omega)
  have f0 := hk1.frz (c := w.heap.size) (o := 0) (by go_simp) (by simp) (by simp; omega)
  have f1 := hk1.frz (c := w.heap.size) (o := 1) (by go_simp) (by simp) (by simp; omega)
  have hn1 : w.heap.size < w1.heap.size := lt_cell' z0
  clear hk1
  obtain ⟨r, HP⟩ : ∃ r, Hid (rd bs = r) := ⟨_, rfl⟩
  rw [HP.out] at hp
  rcases r with _ | ⟨x, r'⟩
  · have HN : Hid (clP bs = none) := bind_none HP.out
    subst hp
    unfold shortE
    go_wp2_with fail
    refine And.intro rfl ?_
    show Rp _ _ _ _ _ _ _
    unfold Rp
    rw [HN.out]
    exact ⟨HK1.out, rfl⟩
  · have HN : Hid (clP bs = Bytes.bind (lstP tyP) (fun l => ret ⟨x, l⟩) r') := bind_of HP.out
    obtain ⟨v, rfl, hvx, hR2⟩ := hp
    unfold RInt at hvx
    subst hvx
    have okx := Lib.hid (rd_wrote _ _ _ HP.out).2
    have hea := eats_rd _ _ _ HP.out
    have H2 := Lib.hid hR2
    clear hR2
    go_wp2_with fail
    refine (itemsTy B b r' _ (H2.out.alloc _) (by omega)).mono ?_
    rintro e w2 ⟨hk2, hp⟩
    have HK2 := Lib.hid (HK1.out.trans (((Wk.refl [b] w1).alloc _).trans hk2))
    have y0 := hk2.cell (c := w1.heap.size) (o := 0) (v := .int .i64 x) (by go_simp) (by simp; omega)
    have y1 := hk2.cell (c := w1.heap.size) (o := 1) (v := .slice none 0 0) (by go_simp) (by simp; omega)
    have g1 := hk2.frz (c := w1.heap.size) (o := 1) (by go_simp) (by simp) (by simp; omega)
    have u0 := hk2.cell (c := w.heap.size) (o := 0) (v := .int .i64 0) (by go_simp) (by simp; omega)
    have u1 := hk2.cell (c := w.heap.size) (o := 1) (v := .slice none 0 0) (by go_simp) (by simp; omega)
    have e0 := hk2.frz (c := w.heap.size) (o := 0) (by go_simp) (by simp; omega) (by simp; omega)
    have e1 := hk2.frz (c := w.heap.size) (o := 1) (by go_simp) (by simp; omega) (by simp; omega)
    clear hk2 z0 z1 f0 f1
    obtain ⟨r, HP2⟩ : ∃ r, Hid (lstP tyP r' = r) := ⟨_, rfl⟩
    rw [HP2.out] at hp
    rcases r with _ | ⟨l, r5⟩
    · have HN2 : Hid (clP bs = none) := HN.out.trans (bind_none HP2.out)
      subst hp
      unfold shortE
      go_wp2_with fail
      refine And.intro rfl ?_
      show Rp _ _ _ _ _ _ _
      unfold Rp
      rw [HN2.out]
      exact ⟨HK2.out, rfl⟩
    · have HN2 : Hid (clP bs = some (⟨x, l⟩, r5)) := HN.out.trans (bind_of HP2.out)
      obtain ⟨v, rfl, hsl, hR5⟩ := hp
      have HSL := Lib.hid hsl
      obtain ⟨aa, acap, rfl, _, _, _⟩ := hsl
      have H6 := Lib.hid hR5
      have hMM : ¬ w.heap.size = w1.heap.size := by omega
      clear hR5
      go_wp2_with fail
      refine bodyPost_ret (v := .agg #[.int .i64 x, .slice aa l.length acap]) (by simp [results, Try.results40, go_sem]; go_simp) rfl ?_
      unfold Rp
      rw [HN2.out]
      have hfin : Wk [w.heap.size, w1.heap.size] w2 _ := (((Wk.refl [w.heap.size, w1.heap.size] w2).setCell (p := ⟨w1.heap.size, 1, none⟩) (.inl (by simp)) (.slice aa l.length acap)).setCell (p := ⟨w.heap.size, 0, none⟩) (.inl (by simp)) (.int .i64 x)).setCell (p := ⟨w.heap.size, 1, none⟩) (.inl (by simp)) (.slice aa l.length acap)
      have hz5 := hfin.size
      have hs2 := HK2.out.size
      refine ⟨HK2.out.trans' hfin (fun y hy => .inr (by simp at hy; omega)), _, rfl, ⟨_, rfl, _, rfl, okx.out, HSL.out.stays sTy (fun k hk => ?_)⟩, H6.out.next hfin (fun y hy => by simp at hy; omega)⟩
      obtain ⟨k1, k2⟩ := hk
      have k1' : w1.heap.size + 1 ≤ k := by simpa using k1
      exact ⟨⟨by omega, Nat.lt_of_lt_of_le k2 hz5⟩, hfin.block k k2 (by simp; omega)⟩

theorem info_Cl : (Try.prog.info? 70).map (fun i => (i.zero, i.size, i.bytes)) = some (some (.agg #[.int .i64 0, .slice none 0 0]), 2, 32) := by kernel_rfl
set_option maxRecDepth 100000 in
set_option maxHeartbeats 4000000 in
theorem itemsCl (B b : Nat) (bs : List UInt8) (w : World) (h : Rdr w B b bs) (hlen : bs.length ≤ 4000000) :
    Calls Try.prog 39 #[.pointer (some ⟨b, 0, none⟩), .func (Fn.func 40) #[.pointer (some ⟨b, 0, none⟩)] #[]] w (Rp (lstP clP bs) (RL VCl 2 w.heap.size) B b w) := by
  obtain ⟨i0, hi, hz0, hz1, hz2⟩ := info_parts info_Cl
  have hR := Lib.hid h
  have hlt := h.lt
  clear h
  go_enter Try.func39, Try.ntmps39
  go_wp2_with fail
  refine (numP B b bs _ hR.out).mono ?_
  rintro e w1 ⟨hk, hp⟩
  have HK := Lib.hid hk
  have hw1s := hk.size
  clear hk
  obtain ⟨r, HR⟩ : ∃ r, Hid (rd bs = r) := ⟨_, rfl⟩
  rw [HR.out] at hp
  rcases r with _ | ⟨n, rest⟩
  · have HQ : Hid (lstP clP bs = none) := lst_none HR.out
    subst hp
    unfold shortE
    go_wp2_with fail
    refine And.intro rfl ?_
    show Rp _ _ _ _ _ _ _
    unfold Rp
    rw [HQ.out]
    exact ⟨HK.out, rfl⟩
  obtain ⟨v, rfl, hvn, hR1⟩ := hp
  unfold RInt at hvn
  subst hvn
  have H1 := Lib.hid hR1
  have hrl := eats_rd _ _ _ HR.out
  have hlt1 := hR1.lt
  obtain ⟨hB, v, hc, hf, a, cap, rfl, hlc, hcc, _⟩ := hR1
  have okn := (rd_wrote _ _ _ HR.out).2
  unfold Ok at okn
  by_cases hneg : n < 0
  · have HQ : Hid (lstP clP bs = none) := lst_neg HR.out hneg
    have hnb : decide (n < 0) = true := by simp [hneg]
    go_wp2_with fail
    refine And.intro rfl ?_
    show Rp _ _ _ _ _ _ _
    unfold Rp
    rw [HQ.out]
    exact ⟨HK.out, rfl⟩
  have hneg2 : 0 ≤ n := by omega
  have hnb : decide (n < 0) = false := by simp [hneg2]
  by_cases hbig : (rest.length : Int) / 8 < n
  · have HQ : Hid (lstP clP bs = none) := lst_big eats_cl HR.out hbig
    have hbb : decide ((rest.length : Int) / 8 < n) = true := by simp [hbig]
    go_wp2_with fail
    refine And.intro rfl ?_
    show Rp _ _ _ _ _ _ _
    unfold Rp
    rw [HQ.out]
    exact ⟨HK.out, rfl⟩
  have hbb : decide ((rest.length : Int) / 8 < n) = false := by simp; omega
  have HQ0 := Lib.hid (cont_start (p := clP) HR.out (by omega))
  have hn5 : n ≤ 500000 := by omega
  go_wp2_with fail
  clear hnb hbb hc hf hlc hcc
  go_loopw [6, 24] (fun v i wr => ∃ (k : Nat) (acc : List Cls) (xs : List Value) (restk : List UInt8), (k : Int) ≤ n ∧ restk.length ≤ 4000000 ∧ i = .int .i64 k ∧ Hid (acc.length = k) ∧ Hid (Wk [b] w wr) ∧ Hid (Rdr wr B b restk) ∧ Hid (wr.ownsRow w.heap.size 70 2 v acc.length xs) ∧ Hid (Row VCl 2 wr (Rw w.heap.size wr v) xs acc) ∧ Hid (lstP clP bs = Cont clP (n.toNat - k) acc restk)) (fun _ i _ => n.toNat - (intOf i).toNat)
  case atStart => exact ⟨0, [], [], rest, by omega, by omega, rfl, rfl, HK, H1, World.ownsRow_nil _ _ _ _, Row.nil _ _ _ _, HQ0⟩
  case round =>
    obtain ⟨k, acc, xs, restk, hk, hrk, rfl, hacc, HKr, HRr, HOr, HWr, HQr⟩ := hrel
    have hsz := HKr.out.size
    have hbl := HRr.out.lt
    have hal : acc.length ≤ 500000 := by have := hacc.out; omega
    by_cases hlt2 : (k : Int) < n
    · go_wp2_with fail
      refine (classP B b restk _ HRr.out (by omega)).mono ?_
      rintro e w2 ⟨hk2, hp⟩
      have hk2s := hk2.size
      have HKc := Lib.hid hk2
      have HK2 := Lib.hid (HKr.out.trans hk2)
      clear hk2
      obtain ⟨r, HP⟩ : ∃ r, Hid (clP restk = r) := ⟨_, rfl⟩
      rw [HP.out] at hp
      rcases r with _ | ⟨x, r'⟩
      · have HQ2 : Hid (lstP clP bs = none) := HQr.out.trans (by rw [show n.toNat - k = (n.toNat - (k + 1)) + 1 by omega]; exact cont_none HP.out)
        subst hp
        unfold shortE
        go_wp2_with fail
        refine And.intro rfl ?_
        show Rp _ _ _ _ _ _ _
        unfold Rp
        rw [HQ2.out]
        exact ⟨HK2.out, rfl⟩
      · have HQ2 : Hid (lstP clP bs = Cont clP (n.toNat - (k + 1)) (acc ++ [x]) r') := HQr.out.trans (by rw [show n.toNat - k = (n.toNat - (k + 1)) + 1 by omega]; exact cont_some HP.out)
        have her := eats_cl _ _ _ HP.out
        obtain ⟨v, rfl, ⟨cs, rfl, hV⟩, hR2⟩ := hp
        have hV' := Lib.hid hV
        obtain ⟨va, rfl, okx, sva⟩ := hV
        have hV := hV'.out
        clear hV'
        obtain ⟨aa0, cap0, hva, _, _, _⟩ := sva
        subst hva
        have HV := Lib.hid hV
        have H2 := Lib.hid hR2
        have HO2 := Lib.hid (own_keep HOr.out HKc.out (by simp; exact fun g hg e => by have := (HOr.out.lt g hg).1; omega))
        clear hV hR2
        go_wp2_with (at_builtin; refine wpList_append_lies _ rfl (.tmp 26) (.tmp 29) 22 rfl w.heap.size 70 i0 (.agg #[.int .i64 0, .slice none 0 0]) 2 32 Try.underlying22 hi hz0 hz1 hz2 rfl (by decide) _ acc.length xs (by simp [Act.eval, Act.put]) (HO2.out.alloc _) ⟨w2.heap.size, 0, none⟩ 1 1 [.int .i64 x.sup, .slice aa0 x.fields.length cap0] (by simp [Act.eval, Act.put]) rfl (by exact news_at _ _ _) (by simp [Value.oneCell']) (by decide) (by unfold maxLen; omega) (by omega) (by simp; omega) _ rfl ?_; intro g2 cap2 w3 hown3 hgrow3 hat3 hlt3; have HA := Lib.hid (item_added HK2.out H2.out HO2.out HWr.out HKc.out hlt hsz (fun g hg => (HOr.out.lt g hg).2) HV.out sCl rfl hown3 hgrow3 hat3); clear hown3 hgrow3 hat3)
        obtain ⟨a1, a2, a3, a4⟩ := HA.out
        have A1 := Lib.hid a1; have A2 := Lib.hid a2; have A3 := Lib.hid a3; have A4 := Lib.hid a4
        clear a1 a2 a3 a4 HA hlt3
        have hlen2 : acc.length + 1 = (acc ++ [x]).length := by simp
        have HL2 := Lib.hid hlen2
        clear hlen2
        go_wp2_with fail
        go_roundw
        case rel => exact ⟨k + 1, acc ++ [x], _, r', by omega, by omega, by go_num, Lib.hid (by have := hacc.out; simp; omega), A1, A2, A3, A4, HQ2⟩
        case measure => simp [intOf]; omega
    · have hkn : n.toNat - k = 0 := by omega
      have HQ2 : Hid (lstP clP bs = some (acc, restk)) := HQr.out.trans (by rw [hkn]; exact cont_zero _ _ _)
      have HS := Lib.hid (Row.sl sCl HWr.out HOr.out (by omega) (P' := Nw w.heap.size _) (fun k hk => ⟨hk.1, hk.2.1⟩) (fun g hg => HOr.out.lt g hg))
      clear hkn
      go_wp2_with fail
      go_ret
      unfold Rp
      rw [HQ2.out]
      exact ⟨HKr.out, _, rfl, HS.out, HRr.out⟩


/-- a block's cells, all of them writable -/
def Blk (w : World) (nb : Nat) (vs : List Value) : Prop := ∀ j (h : j < vs.length), w.cell? ⟨nb, j, none⟩ = some vs[j] ∧ w.frozen? ⟨nb, j, none⟩ = false
theorem Blk.next {w w' : World} {nb : Nat} {vs : List Value} (h : Blk w nb vs) {X : List Nat} (hk : Wk X w w') (hX : nb ∉ X) : Blk w' nb vs := fun j hj =>
  ⟨hk.cell (h j hj).1 hX, hk.frz (h j hj).2 (lt_cell' (h j hj).1) hX⟩
theorem Blk.far {w : World} {nb : Nat} {vs : List Value} (h : Blk w nb vs) {b2 o2 : Nat} (hne : b2 ≠ nb) (x : Value) : Blk (w.setCell ⟨b2, o2, none⟩ x) nb vs :=
  h.next (X := [b2]) ((Wk.refl _ _).setCell (.inl (by simp)) _) (by simp; exact fun e => hne e.symm)
theorem Blk.set {w : World} {nb : Nat} {vs : List Value} (h : Blk w nb vs) (k : Nat) (hk : k < vs.length) (x : Value) : Blk (w.setCell ⟨nb, k, none⟩ x) nb (vs.set k x) := fun j hj => by
  have hj' : j < vs.length := by simpa using hj
  obtain ⟨h1, h2⟩ := h j hj'
  obtain ⟨g1, g2⟩ := h k hk
  by_cases e : j = k
  · subst e
    rw [List.getElem_set_self]
    exact ⟨by go_simp, by rw [World.frozen?_setCell]; exact h2⟩
  · have hne : ¬ ((⟨nb, k, none⟩ : Addr) = ⟨nb, j, none⟩) := by intro h; injection h with _ h; omega
    rw [List.getElem_set_ne (by omega)]
    exact ⟨by rw [World.cell?_setCell_other _ _ _ _ hne]; exact h1, by rw [World.frozen?_setCell]; exact h2⟩

theorem me_rep (bs r1 r2 : List UInt8) (pl : List Ty) (t : Ty) (h1 : lstP tyP bs = some (pl, r1)) (h2 : tyP r1 = some (t, r2)) : meP bs = (match Cont rd 3 [] r2 with
  | none => none
  | some (l, r) => Bytes.bind (lstP insP) (fun c => Bytes.bind (lstP hdP) fun h => ret ⟨pl, t, l.getD 0 0, l.getD 1 0, l.getD 2 0, c, h⟩) r) := by
  rw [meP, bind_of h1, bind_of h2]
  cases h1 : rd r2 with
  | none => rw [bind_none h1, cont_none h1]
  | some y =>
    obtain ⟨a, r1⟩ := y
    rw [bind_of h1, cont_some h1]
    cases h2 : rd r1 with
    | none => rw [bind_none h2, cont_none h2]
    | some y =>
      obtain ⟨b, r2⟩ := y
      rw [bind_of h2, cont_some h2]
      cases h3 : rd r2 with
      | none => rw [bind_none h3, cont_none h3]
      | some y =>
        obtain ⟨c, r3⟩ := y
        rw [bind_of h3, cont_some h3, cont_zero]; rfl
theorem eats_lst {α : Type} {p : P α} {e : α → List UInt8} {ok : α → Prop} (h : Wrote p e ok) : Eats (lstP p) := eats_of (lst_wrote h) (fun x => by rw [lst, List.length_append, wide_len]; omega)

set_option maxRecDepth 100000 in
set_option maxHeartbeats 8000000 in
theorem methodP (B b : Nat) (bs : List UInt8) (w : World) (h : Rdr w B b bs) (hlen : bs.length ≤ 4000000) :
    Calls Try.prog 42 #[.pointer (some ⟨b, 0, none⟩)] w (Rp (meP bs) (RS VMt w.heap.size) B b w) := by
  have hR := Lib.hid h
  have hlt := h.lt
  clear h
  have i0 : ∀ (a b c : Value) (w : World), (Instr.index 144 (.agg #[a, b, c]) (.int .i64 0)).run Try.prog w = .ok a w := fun _ _ _ _ => by kernel_rfl
  have i1 : ∀ (a b c : Value) (w : World), (Instr.index 144 (.agg #[a, b, c]) (.int .i64 1)).run Try.prog w = .ok b w := fun _ _ _ _ => by kernel_rfl
  have i2 : ∀ (a b c : Value) (w : World), (Instr.index 144 (.agg #[a, b, c]) (.int .i64 2)).run Try.prog w = .ok c w := fun _ _ _ _ => by kernel_rfl
  go_enter Try.func42, Try.ntmps42
  go_wp2_with fail
  refine callsR (fun W => Hid (Wk [b] w W) ∧ Hid (Rdr W B b bs) ∧ Hid (Blk W w.heap.size [.slice none 0 0, .int .i64 0, .int .i64 0, .int .i64 0, .int .i64 0, .int .i64 0, .slice none 0 0, .slice none 0 0]) ∧ w.heap.size < W.heap.size) ⟨Lib.hid ((Wk.refl _ _).alloc _), Lib.hid (hR.out.alloc _), ?_, by simp⟩ ?_
  · show Blk _ _ _
    intro j hj
    match j, hj with
    | 0, _ => exact ⟨by go_simp; try rfl, by go_simp⟩
    | 1, _ => exact ⟨by go_simp; try rfl, by go_simp⟩
    | 2, _ => exact ⟨by go_simp; try rfl, by go_simp⟩
    | 3, _ => exact ⟨by go_simp; try rfl, by go_simp⟩
    | 4, _ => exact ⟨by go_simp; try rfl, by go_simp⟩
    | 5, _ => exact ⟨by go_simp; try rfl, by go_simp⟩
    | 6, _ => exact ⟨by go_simp; try rfl, by go_simp⟩
    | 7, _ => exact ⟨by go_simp; try rfl, by go_simp⟩
  rintro w0 ⟨HK0, HR0, HZ0, hw0⟩
  refine (itemsTy B b bs _ HR0.out hlen).mono ?_
  rintro e w1 ⟨hk1, hp⟩
  have HK1 := Lib.hid (HK0.out.trans hk1)
  have HZ1 := Lib.hid (HZ0.out.next hk1 (by simp; omega))
  have hw1 := hk1.size
  clear hk1
  obtain ⟨r, HP1⟩ : ∃ r, Hid (lstP tyP bs = r) := ⟨_, rfl⟩
  rw [HP1.out] at hp
  rcases r with _ | ⟨pl, r1⟩
  · have HN : Hid (meP bs = none) := bind_none HP1.out
    subst hp
    unfold shortE
    go_wp2_with fail
    refine And.intro rfl ?_
    show Rp _ _ _ _ _ _ _
    unfold Rp
    rw [HN.out]
    exact ⟨HK1.out, rfl⟩
  obtain ⟨v, rfl, hsl, hR1⟩ := hp
  have HS1 := Lib.hid hsl
  obtain ⟨pa, pcap, rfl, _, _, _⟩ := hsl
  have H1 := Lib.hid hR1
  have hea1 := eats_lst ty_wrote _ _ _ HP1.out
  clear hR1
  go_wp2_with fail
  refine callsR (fun W => Hid (Wk [b] w W) ∧ Hid (Rdr W B b r1) ∧ Hid (Blk W w.heap.size [.slice none 0 0, .int .i64 0, .int .i64 0, .int .i64 0, .int .i64 0, .int .i64 0, .slice none 0 0, .slice none 0 0]) ∧ Hid (Blk W w1.heap.size [.slice pa pl.length pcap, .int .i64 0, .int .i64 0, .int .i64 0, .int .i64 0, .int .i64 0, .slice none 0 0, .slice none 0 0]) ∧ Hid (SlV VTy 2 W (Nw w0.heap.size w1.heap.size) (.slice pa pl.length pcap) pl) ∧ w1.heap.size < W.heap.size) ⟨Lib.hid (HK1.out.alloc _), Lib.hid (H1.out.alloc _), Lib.hid (HZ1.out.next (X := []) ((Wk.refl _ _).alloc _) (by simp)), ?_, Lib.hid (HS1.out.stays sTy (fun k hk => ⟨hk, heap_alloc_old _ _ hk.2⟩)), by simp⟩ ?_
  · show Blk _ _ _
    intro j hj
    match j, hj with
    | 0, _ => exact ⟨by go_simp; try rfl, by go_simp⟩
    | 1, _ => exact ⟨by go_simp; try rfl, by go_simp⟩
    | 2, _ => exact ⟨by go_simp; try rfl, by go_simp⟩
    | 3, _ => exact ⟨by go_simp; try rfl, by go_simp⟩
    | 4, _ => exact ⟨by go_simp; try rfl, by go_simp⟩
    | 5, _ => exact ⟨by go_simp; try rfl, by go_simp⟩
    | 6, _ => exact ⟨by go_simp; try rfl, by go_simp⟩
    | 7, _ => exact ⟨by go_simp; try rfl, by go_simp⟩
  rintro w2 ⟨HK2, HR2, HZ2, HM2, HS2, hw2⟩
  generalize hM : w1.heap.size = M at *
  refine (kindP B b r1 _ HR2.out).mono ?_
  rintro e w3 ⟨hk3, hp⟩
  have HK3 := Lib.hid (HK2.out.trans hk3)
  have HZ3 := Lib.hid (HZ2.out.next hk3 (by simp; omega))
  have HM3 := Lib.hid (HM2.out.next hk3 (by simp; omega))
  have HS3 := Lib.hid (HS2.out.stays sTy (fun k hk => ⟨hk, hk3.block k (by have := hk.2; omega) (by simp; have := hk.1; omega)⟩))
  have hw3 := hk3.size
  clear hk3
  obtain ⟨r, HP2⟩ : ∃ r, Hid (tyP r1 = r) := ⟨_, rfl⟩
  rw [HP2.out] at hp
  rcases r with _ | ⟨t, r2⟩
  · have HN : Hid (meP bs = none) := by
      show _ = _
      rw [meP, bind_of HP1.out, bind_none HP2.out]
    subst hp
    unfold shortE
    go_wp2_with fail
    refine And.intro rfl ?_
    show Rp _ _ _ _ _ _ _
    unfold Rp
    rw [HN.out]
    exact ⟨HK3.out, rfl⟩
  have HN := Lib.hid (me_rep bs r1 r2 pl t HP1.out HP2.out)
  obtain ⟨v, rfl, ⟨cs, rfl, ⟨rfl, okt⟩⟩, hR3⟩ := hp
  have OKT := Lib.hid okt
  have H3 := Lib.hid hR3
  have hea2 := eats_ty _ _ _ HP2.out
  have m1 : w3.cell? ⟨M, 1, none⟩ = some (.int .i64 0) := (HM3.out 1 (by simp)).1
  have m2 : w3.cell? ⟨M, 2, none⟩ = some (.int .i64 0) := (HM3.out 2 (by simp)).1
  have g1 : w3.frozen? ⟨M, 1, none⟩ = false := (HM3.out 1 (by simp)).2
  have g2 : w3.frozen? ⟨M, 2, none⟩ = false := (HM3.out 2 (by simp)).2
  clear hR3 okt
  go_wp2_with fail
  go_loopw [18] (fun i wr => ∃ (k : Nat) (restk : List UInt8) (y0 y1 y2 : Int), k ≤ 3 ∧ restk.length ≤ 4000000 ∧ M < wr.heap.size ∧ i = .int .i64 k ∧ Hid (Wk [b] w wr) ∧ Hid (Rdr wr B b restk) ∧ Hid (Blk wr w.heap.size [.slice none 0 0, .int .i64 0, .int .i64 0, .int .i64 0, .int .i64 0, .int .i64 0, .slice none 0 0, .slice none 0 0]) ∧ Hid (Blk wr M [.slice pa pl.length pcap, .int .i64 t.kind, .int .i64 t.cls, .int .i64 y0, .int .i64 y1, .int .i64 y2, .slice none 0 0, .slice none 0 0]) ∧ Hid (SlV VTy 2 wr (Nw w0.heap.size M) (.slice pa pl.length pcap) pl) ∧ Hid (Ok y0 ∧ Ok y1 ∧ Ok y2) ∧ Hid (Cont rd 3 [] r2 = Cont rd (3 - k) ([y0, y1, y2].take k) restk)) (fun i _ => 3 - (intOf i).toNat)
  case atStart =>
    have kz : Ok 0 := by unfold Ok; omega
    exact ⟨0, r2, 0, 0, 0, by omega, by omega, by simp; omega, rfl, Lib.hid ((HK3.out.setCell (.inr (by show _ ≤ M; omega)) _).setCell (.inr (by show _ ≤ M; omega)) _), Lib.hid (H3.out.next (X := [M]) (((Wk.refl _ _).setCell (.inl (by simp)) _).setCell (.inl (by simp)) _) (by simp; omega)), Lib.hid ((HZ3.out.far (by omega) _).far (by omega) _), Lib.hid ((HM3.out.set 1 (by simp) _).set 2 (by simp) _), Lib.hid (HS3.out.stays sTy (fun k hk => ⟨hk, (Below.heap_setCell _ _ _ _ (by show k ≠ M; have := hk.2; omega)).trans (Below.heap_setCell _ _ _ _ (by show k ≠ M; have := hk.2; omega))⟩)), Lib.hid ⟨kz, kz, kz⟩, rfl⟩
  case round =>
    obtain ⟨k, restk, y0, y1, y2, hk, hrk, hsMw, rfl, HKr, HRr, HZ, HM, HS, HO, HC⟩ := hrel
    have hsz := HKr.out.size
    have hsM : M ≤ _ := Nat.le_of_lt hsMw
    clear m1 m2 g1 g2
    by_cases hlt2 : k < 3
    · have hcase : k = 0 ∨ k = 1 ∨ k = 2 := by omega
      rcases hcase with rfl | rfl | rfl
      · go_wp2_with fail
        refine (numP B b restk _ HRr.out).mono ?_
        rintro e w4 ⟨hk4, hp⟩
        have HK4 := Lib.hid (HKr.out.trans hk4)
        have HZ4 := Lib.hid (HZ.out.next hk4 (by simp; omega))
        have HM4 := Lib.hid (HM.out.next hk4 (by simp; omega))
        have HS4 := Lib.hid (HS.out.stays sTy (fun k hk => ⟨hk, hk4.block k (Nat.lt_of_lt_of_le hk.2 hsM) (by simp; have := hk.1; omega)⟩))
        have hs4 := hk4.size
        clear hk4
        obtain ⟨r, HP⟩ : ∃ r, Hid (rd restk = r) := ⟨_, rfl⟩
        rw [HP.out] at hp
        rcases r with _ | ⟨x, r'⟩
        · have HN4 : Hid (meP bs = none) := by
            show _ = _
            rw [HN.out, HC.out, cont_none HP.out]
          subst hp
          unfold shortE
          go_wp2_with fail
          refine And.intro rfl ?_
          show Rp _ _ _ _ _ _ _
          unfold Rp
          rw [HN4.out]
          exact ⟨HK4.out, rfl⟩
        · have HC4 := Lib.hid (HC.out.trans (cont_some HP.out))
          obtain ⟨v, rfl, hvx, hR4⟩ := hp
          unfold RInt at hvx
          subst hvx
          have okx := Lib.hid (rd_wrote _ _ _ HP.out).2
          have hea := eats_rd _ _ _ HP.out
          have H4 := Lib.hid hR4
          have q1 : w4.cell? ⟨M, 3, none⟩ = some (.int .i64 y0) := (HM4.out 3 (by simp)).1
          have q2 : w4.frozen? ⟨M, 3, none⟩ = false := (HM4.out 3 (by simp)).2
          clear hR4
          go_wp2_with fail
          go_roundw
          case rel => exact ⟨1, r', x, y1, y2, by omega, by omega, by simp [World.setCell]; omega, rfl, Lib.hid (HK4.out.setCell (.inr (by show _ ≤ M; omega)) _), Lib.hid (H4.out.next (X := [M]) ((Wk.refl _ _).setCell (.inl (by simp)) _) (by simp; omega)), Lib.hid (HZ4.out.far (by omega) _), Lib.hid (HM4.out.set 3 (by simp) _), Lib.hid (HS4.out.stays sTy (fun k hk => ⟨hk, (Below.heap_setCell _ _ _ _ (by show k ≠ M; have := hk.2; omega))⟩)), Lib.hid (by have := HO.out; have := okx.out; exact ⟨by assumption, HO.out.2.1, HO.out.2.2⟩), HC4⟩
          case measure => simp [intOf]
      · go_wp2_with fail
        refine (numP B b restk _ HRr.out).mono ?_
        rintro e w4 ⟨hk4, hp⟩
        have HK4 := Lib.hid (HKr.out.trans hk4)
        have HZ4 := Lib.hid (HZ.out.next hk4 (by simp; omega))
        have HM4 := Lib.hid (HM.out.next hk4 (by simp; omega))
        have HS4 := Lib.hid (HS.out.stays sTy (fun k hk => ⟨hk, hk4.block k (Nat.lt_of_lt_of_le hk.2 hsM) (by simp; have := hk.1; omega)⟩))
        have hs4 := hk4.size
        clear hk4
        obtain ⟨r, HP⟩ : ∃ r, Hid (rd restk = r) := ⟨_, rfl⟩
        rw [HP.out] at hp
        rcases r with _ | ⟨x, r'⟩
        · have HN4 : Hid (meP bs = none) := by
            show _ = _
            rw [HN.out, HC.out, cont_none HP.out]
          subst hp
          unfold shortE
          go_wp2_with fail
          refine And.intro rfl ?_
          show Rp _ _ _ _ _ _ _
          unfold Rp
          rw [HN4.out]
          exact ⟨HK4.out, rfl⟩
        · have HC4 := Lib.hid (HC.out.trans (cont_some HP.out))
          obtain ⟨v, rfl, hvx, hR4⟩ := hp
          unfold RInt at hvx
          subst hvx
          have okx := Lib.hid (rd_wrote _ _ _ HP.out).2
          have hea := eats_rd _ _ _ HP.out
          have H4 := Lib.hid hR4
          have q1 : w4.cell? ⟨M, 4, none⟩ = some (.int .i64 y1) := (HM4.out 4 (by simp)).1
          have q2 : w4.frozen? ⟨M, 4, none⟩ = false := (HM4.out 4 (by simp)).2
          clear hR4
          go_wp2_with fail
          go_roundw
          case rel => exact ⟨2, r', y0, x, y2, by omega, by omega, by simp [World.setCell]; omega, rfl, Lib.hid (HK4.out.setCell (.inr (by show _ ≤ M; omega)) _), Lib.hid (H4.out.next (X := [M]) ((Wk.refl _ _).setCell (.inl (by simp)) _) (by simp; omega)), Lib.hid (HZ4.out.far (by omega) _), Lib.hid (HM4.out.set 4 (by simp) _), Lib.hid (HS4.out.stays sTy (fun k hk => ⟨hk, (Below.heap_setCell _ _ _ _ (by show k ≠ M; have := hk.2; omega))⟩)), Lib.hid (by have := HO.out; have := okx.out; exact ⟨HO.out.1, by assumption, HO.out.2.2⟩), HC4⟩
          case measure => simp [intOf]
      · go_wp2_with fail
        refine (numP B b restk _ HRr.out).mono ?_
        rintro e w4 ⟨hk4, hp⟩
        have HK4 := Lib.hid (HKr.out.trans hk4)
        have HZ4 := Lib.hid (HZ.out.next hk4 (by simp; omega))
        have HM4 := Lib.hid (HM.out.next hk4 (by simp; omega))
        have HS4 := Lib.hid (HS.out.stays sTy (fun k hk => ⟨hk, hk4.block k (Nat.lt_of_lt_of_le hk.2 hsM) (by simp; have := hk.1; omega)⟩))
        have hs4 := hk4.size
        clear hk4
        obtain ⟨r, HP⟩ : ∃ r, Hid (rd restk = r) := ⟨_, rfl⟩
        rw [HP.out] at hp
        rcases r with _ | ⟨x, r'⟩
        · have HN4 : Hid (meP bs = none) := by
            show _ = _
            rw [HN.out, HC.out, cont_none HP.out]
          subst hp
          unfold shortE
          go_wp2_with fail
          refine And.intro rfl ?_
          show Rp _ _ _ _ _ _ _
          unfold Rp
          rw [HN4.out]
          exact ⟨HK4.out, rfl⟩
        · have HC4 := Lib.hid (HC.out.trans (cont_some HP.out))
          obtain ⟨v, rfl, hvx, hR4⟩ := hp
          unfold RInt at hvx
          subst hvx
          have okx := Lib.hid (rd_wrote _ _ _ HP.out).2
          have hea := eats_rd _ _ _ HP.out
          have H4 := Lib.hid hR4
          have q1 : w4.cell? ⟨M, 5, none⟩ = some (.int .i64 y2) := (HM4.out 5 (by simp)).1
          have q2 : w4.frozen? ⟨M, 5, none⟩ = false := (HM4.out 5 (by simp)).2
          clear hR4
          go_wp2_with fail
          go_roundw
          case rel => exact ⟨3, r', y0, y1, x, by omega, by omega, by simp [World.setCell]; omega, rfl, Lib.hid (HK4.out.setCell (.inr (by show _ ≤ M; omega)) _), Lib.hid (H4.out.next (X := [M]) ((Wk.refl _ _).setCell (.inl (by simp)) _) (by simp; omega)), Lib.hid (HZ4.out.far (by omega) _), Lib.hid (HM4.out.set 5 (by simp) _), Lib.hid (HS4.out.stays sTy (fun k hk => ⟨hk, (Below.heap_setCell _ _ _ _ (by show k ≠ M; have := hk.2; omega))⟩)), Lib.hid (by have := HO.out; have := okx.out; exact ⟨HO.out.1, HO.out.2.1, by assumption⟩), HC4⟩
          case measure => simp [intOf]
    · obtain rfl : k = 3 := by omega
      have HN5 : Hid (meP bs = Bytes.bind (lstP insP) (fun c => Bytes.bind (lstP hdP) fun h => ret ⟨pl, t, y0, y1, y2, c, h⟩) restk) := by
        show _ = _
        rw [HN.out, HC.out, Nat.sub_self, cont_zero]; rfl
      go_wp2_with fail
      refine (itemsIn B b restk _ HRr.out hrk).mono ?_
      rintro e w5 ⟨hk5, hp⟩
      have HK5 := Lib.hid (HKr.out.trans hk5)
      have HZ5 := Lib.hid (HZ.out.next hk5 (by simp; omega))
      have HM5 := Lib.hid (HM.out.next hk5 (by simp; omega))
      have HS5 := Lib.hid (HS.out.stays sTy (fun k hk => ⟨hk, hk5.block k (Nat.lt_of_lt_of_le hk.2 hsM) (by simp; have := hk.1; omega)⟩))
      have hw5 := hk5.size
      clear hk5
      obtain ⟨r, HP5⟩ : ∃ r, Hid (lstP insP restk = r) := ⟨_, rfl⟩
      rw [HP5.out] at hp
      rcases r with _ | ⟨cl, r5⟩
      · have HN6 : Hid (meP bs = none) := HN5.out.trans (bind_none HP5.out)
        subst hp
        unfold shortE
        go_wp2_with fail
        refine And.intro rfl ?_
        show Rp _ _ _ _ _ _ _
        unfold Rp
        rw [HN6.out]
        exact ⟨HK5.out, rfl⟩
      have HN6 := Lib.hid (HN5.out.trans (bind_of HP5.out))
      obtain ⟨v, rfl, hsl, hR5⟩ := hp
      have HC5 := Lib.hid hsl
      obtain ⟨da, dcap, rfl, _, _, _⟩ := hsl
      have H5 := Lib.hid hR5
      have hea5 := eats_lst ins_wrote _ _ _ HP5.out
      have m6 : w5.cell? ⟨M, 6, none⟩ = some (.slice none 0 0) := (HM5.out 6 (by simp)).1
      have g6 : w5.frozen? ⟨M, 6, none⟩ = false := (HM5.out 6 (by simp)).2
      clear hR5
      go_wp2_with fail
      refine callsR (fun W => Hid (Wk [b] w W) ∧ Hid (Rdr W B b r5) ∧ Hid (Blk W w.heap.size [.slice none 0 0, .int .i64 0, .int .i64 0, .int .i64 0, .int .i64 0, .int .i64 0, .slice none 0 0, .slice none 0 0]) ∧ Hid (Blk W M [.slice pa pl.length pcap, .int .i64 t.kind, .int .i64 t.cls, .int .i64 y0, .int .i64 y1, .int .i64 y2, .slice da cl.length dcap, .slice none 0 0]) ∧ Hid (SlV VTy 2 W (Nw w0.heap.size M) (.slice pa pl.length pcap) pl) ∧ Hid (SlV VIn 6 W (Nw (M + 1) w5.heap.size) (.slice da cl.length dcap) cl) ∧ W.heap.size = w5.heap.size) ⟨Lib.hid (HK5.out.setCell (.inr (by show _ ≤ M; omega)) _), Lib.hid (H5.out.next (X := [M]) ((Wk.refl _ _).setCell (.inl (by simp)) _) (by simp; omega)), Lib.hid (HZ5.out.far (by omega) _), Lib.hid (HM5.out.set 6 (by simp) _), Lib.hid (HS5.out.stays sTy (fun k hk => ⟨hk, Below.heap_setCell _ _ _ _ (by show k ≠ M; have := hk.2; omega)⟩)), Lib.hid (HC5.out.stays sIn (fun k hk => ⟨⟨by have := hk.1; omega, hk.2⟩, Below.heap_setCell _ _ _ _ (by show k ≠ M; have := hk.1; omega)⟩)), by simp [World.setCell]⟩ ?_
      rintro w6 ⟨HK6, H6, HZ6, HM6, HS6, HC6, hw6⟩
      have hw6' : w5.heap.size ≤ w6.heap.size := by omega
      clear m6 g6
      refine (itemsHd B b r5 _ H6.out (by omega)).mono ?_
      rintro e w7 ⟨hk7, hp⟩
      have HK7 := Lib.hid (HK6.out.trans hk7)
      have HZ7 := Lib.hid (HZ6.out.next hk7 (by simp; omega))
      have HM7 := Lib.hid (HM6.out.next hk7 (by simp; omega))
      have HS7 := Lib.hid (HS6.out.stays sTy (fun k hk => ⟨hk, hk7.block k (by have := hk.2; omega) (by simp; have := hk.1; omega)⟩))
      have HC7 := Lib.hid (HC6.out.stays sIn (fun k hk => ⟨hk, hk7.block k (by have := hk.2; omega) (by simp; have := hk.1; omega)⟩))
      have hw7 := hk7.size
      have HW6 := Lib.hid hw6
      clear hk7 hw6
      obtain ⟨r, HP7⟩ : ∃ r, Hid (lstP hdP r5 = r) := ⟨_, rfl⟩
      rw [HP7.out] at hp
      rcases r with _ | ⟨hl, r7⟩
      · have HN7 : Hid (meP bs = none) := HN6.out.trans (bind_none HP7.out)
        subst hp
        unfold shortE
        go_wp2_with fail
        refine And.intro rfl ?_
        show Rp _ _ _ _ _ _ _
        unfold Rp
        rw [HN7.out]
        exact ⟨HK7.out, rfl⟩
      have HN7 := Lib.hid (HN6.out.trans (bind_of HP7.out))
      obtain ⟨v, rfl, hsl, hR7⟩ := hp
      have HH7 := Lib.hid hsl
      obtain ⟨ha, hcap, rfl, _, _, _⟩ := hsl
      have H7 := Lib.hid hR7
      have m0 : w7.cell? ⟨M, 0, none⟩ = some (.slice pa pl.length pcap) := (HM7.out 0 (by simp)).1
      have m1 : w7.cell? ⟨M, 1, none⟩ = some (.int .i64 t.kind) := (HM7.out 1 (by simp)).1
      have m2 : w7.cell? ⟨M, 2, none⟩ = some (.int .i64 t.cls) := (HM7.out 2 (by simp)).1
      have m3 : w7.cell? ⟨M, 3, none⟩ = some (.int .i64 y0) := (HM7.out 3 (by simp)).1
      have m4 : w7.cell? ⟨M, 4, none⟩ = some (.int .i64 y1) := (HM7.out 4 (by simp)).1
      have m5 : w7.cell? ⟨M, 5, none⟩ = some (.int .i64 y2) := (HM7.out 5 (by simp)).1
      have m6 : w7.cell? ⟨M, 6, none⟩ = some (.slice da cl.length dcap) := (HM7.out 6 (by simp)).1
      have m7 : w7.cell? ⟨M, 7, none⟩ = some (.slice none 0 0) := (HM7.out 7 (by simp)).1
      have g7 : w7.frozen? ⟨M, 7, none⟩ = false := (HM7.out 7 (by simp)).2
      have z0 : w7.cell? ⟨w.heap.size, 0, none⟩ = some (.slice none 0 0) := (HZ7.out 0 (by simp)).1
      have z1 : w7.cell? ⟨w.heap.size, 1, none⟩ = some (.int .i64 0) := (HZ7.out 1 (by simp)).1
      have z2 : w7.cell? ⟨w.heap.size, 2, none⟩ = some (.int .i64 0) := (HZ7.out 2 (by simp)).1
      have z3 : w7.cell? ⟨w.heap.size, 3, none⟩ = some (.int .i64 0) := (HZ7.out 3 (by simp)).1
      have z4 : w7.cell? ⟨w.heap.size, 4, none⟩ = some (.int .i64 0) := (HZ7.out 4 (by simp)).1
      have z5 : w7.cell? ⟨w.heap.size, 5, none⟩ = some (.int .i64 0) := (HZ7.out 5 (by simp)).1
      have z6 : w7.cell? ⟨w.heap.size, 6, none⟩ = some (.slice none 0 0) := (HZ7.out 6 (by simp)).1
      have z7 : w7.cell? ⟨w.heap.size, 7, none⟩ = some (.slice none 0 0) := (HZ7.out 7 (by simp)).1
      have f0 : w7.frozen? ⟨w.heap.size, 0, none⟩ = false := (HZ7.out 0 (by simp)).2
      have f1 : w7.frozen? ⟨w.heap.size, 1, none⟩ = false := (HZ7.out 1 (by simp)).2
      have f2 : w7.frozen? ⟨w.heap.size, 2, none⟩ = false := (HZ7.out 2 (by simp)).2
      have f3 : w7.frozen? ⟨w.heap.size, 3, none⟩ = false := (HZ7.out 3 (by simp)).2
      have f4 : w7.frozen? ⟨w.heap.size, 4, none⟩ = false := (HZ7.out 4 (by simp)).2
      have f5 : w7.frozen? ⟨w.heap.size, 5, none⟩ = false := (HZ7.out 5 (by simp)).2
      have f6 : w7.frozen? ⟨w.heap.size, 6, none⟩ = false := (HZ7.out 6 (by simp)).2
      have f7 : w7.frozen? ⟨w.heap.size, 7, none⟩ = false := (HZ7.out 7 (by simp)).2
      have hNN : ¬ w.heap.size = M := by omega
      clear hR7
      go_wp2_with fail
      refine bodyPost_ret (v := .agg #[.slice pa pl.length pcap, .int .i64 t.kind, .int .i64 t.cls, .int .i64 y0, .int .i64 y1, .int .i64 y2, .slice da cl.length dcap, .slice ha hl.length hcap]) (by simp [results, Try.results42, go_sem]; go_simp) rfl ?_
      unfold Rp
      rw [HN7.out]
      have hfin : Wk [w.heap.size, M] w7 _ := (((((((((Wk.refl [w.heap.size, M] w7).setCell (p := ⟨M, 7, none⟩) (.inl (by simp)) (.slice ha hl.length hcap)).setCell (p := ⟨w.heap.size, 0, none⟩) (.inl (by simp)) (.slice pa pl.length pcap)).setCell (p := ⟨w.heap.size, 1, none⟩) (.inl (by simp)) (.int .i64 t.kind)).setCell (p := ⟨w.heap.size, 2, none⟩) (.inl (by simp)) (.int .i64 t.cls)).setCell (p := ⟨w.heap.size, 3, none⟩) (.inl (by simp)) (.int .i64 y0)).setCell (p := ⟨w.heap.size, 4, none⟩) (.inl (by simp)) (.int .i64 y1)).setCell (p := ⟨w.heap.size, 5, none⟩) (.inl (by simp)) (.int .i64 y2)).setCell (p := ⟨w.heap.size, 6, none⟩) (.inl (by simp)) (.slice da cl.length dcap)).setCell (p := ⟨w.heap.size, 7, none⟩) (.inl (by simp)) (.slice ha hl.length hcap)
      have hz7 := hfin.size
      refine ⟨HK7.out.trans' hfin (fun y hy => .inr (by simp at hy; omega)), _, rfl, ⟨_, rfl, _, _, _, rfl, ⟨OKT.out.1, OKT.out.2, HO.out⟩, HS7.out.stays sTy (fun k hk => ?_), HC7.out.stays sIn (fun k hk => ?_), HH7.out.stays sHd (fun k hk => ?_)⟩, H7.out.next hfin (fun y hy => by simp at hy; omega)⟩
      · obtain ⟨k1, k2⟩ := hk
        exact ⟨⟨by omega, Nat.lt_of_lt_of_le (show k < w7.heap.size by omega) hz7⟩, hfin.block k (by omega) (by simp; omega)⟩
      · obtain ⟨k1, k2⟩ := hk
        exact ⟨⟨by omega, Nat.lt_of_lt_of_le (show k < w7.heap.size by omega) hz7⟩, hfin.block k (by omega) (by simp; omega)⟩
      · obtain ⟨k1, k2⟩ := hk
        exact ⟨⟨by omega, Nat.lt_of_lt_of_le k2 hz7⟩, hfin.block k k2 (by simp; omega)⟩

theorem info_Mt : (Try.prog.info? 55).map (fun i => (i.zero, i.size, i.bytes)) = some (some (.agg #[.slice none 0 0, .int .i64 0, .int .i64 0, .int .i64 0, .int .i64 0, .int .i64 0, .slice none 0 0, .slice none 0 0]), 8, 112) := by kernel_rfl
set_option maxRecDepth 100000 in
set_option maxHeartbeats 4000000 in
theorem itemsMt (B b : Nat) (bs : List UInt8) (w : World) (h : Rdr w B b bs) (hlen : bs.length ≤ 4000000) :
    Calls Try.prog 41 #[.pointer (some ⟨b, 0, none⟩), .func (Fn.func 42) #[.pointer (some ⟨b, 0, none⟩)] #[]] w (Rp (lstP meP bs) (RL VMt 8 w.heap.size) B b w) := by
  obtain ⟨i0, hi, hz0, hz1, hz2⟩ := info_parts info_Mt
  have hR := Lib.hid h
  have hlt := h.lt
  clear h
  go_enter Try.func41, Try.ntmps41
  go_wp2_with fail
  refine (numP B b bs _ hR.out).mono ?_
  rintro e w1 ⟨hk, hp⟩
  have HK := Lib.hid hk
  have hw1s := hk.size
  clear hk
  obtain ⟨r, HR⟩ : ∃ r, Hid (rd bs = r) := ⟨_, rfl⟩
  rw [HR.out] at hp
  rcases r with _ | ⟨n, rest⟩
  · have HQ : Hid (lstP meP bs = none) := lst_none HR.out
    subst hp
    unfold shortE
    go_wp2_with fail
    refine And.intro rfl ?_
    show Rp _ _ _ _ _ _ _
    unfold Rp
    rw [HQ.out]
    exact ⟨HK.out, rfl⟩
  obtain ⟨v, rfl, hvn, hR1⟩ := hp
  unfold RInt at hvn
  subst hvn
  have H1 := Lib.hid hR1
  have hrl := eats_rd _ _ _ HR.out
  have hlt1 := hR1.lt
  obtain ⟨hB, v, hc, hf, a, cap, rfl, hlc, hcc, _⟩ := hR1
  have okn := (rd_wrote _ _ _ HR.out).2
  unfold Ok at okn
  by_cases hneg : n < 0
  · have HQ : Hid (lstP meP bs = none) := lst_neg HR.out hneg
    have hnb : decide (n < 0) = true := by simp [hneg]
    go_wp2_with fail
    refine And.intro rfl ?_
    show Rp _ _ _ _ _ _ _
    unfold Rp
    rw [HQ.out]
    exact ⟨HK.out, rfl⟩
  have hneg2 : 0 ≤ n := by omega
  have hnb : decide (n < 0) = false := by simp [hneg2]
  by_cases hbig : (rest.length : Int) / 8 < n
  · have HQ : Hid (lstP meP bs = none) := lst_big eats_me HR.out hbig
    have hbb : decide ((rest.length : Int) / 8 < n) = true := by simp [hbig]
    go_wp2_with fail
    refine And.intro rfl ?_
    show Rp _ _ _ _ _ _ _
    unfold Rp
    rw [HQ.out]
    exact ⟨HK.out, rfl⟩
  have hbb : decide ((rest.length : Int) / 8 < n) = false := by simp; omega
  have HQ0 := Lib.hid (cont_start (p := meP) HR.out (by omega))
  have hn5 : n ≤ 500000 := by omega
  go_wp2_with fail
  clear hnb hbb hc hf hlc hcc
  go_loopw [6, 24] (fun v i wr => ∃ (k : Nat) (acc : List Me) (xs : List Value) (restk : List UInt8), (k : Int) ≤ n ∧ restk.length ≤ 4000000 ∧ i = .int .i64 k ∧ Hid (acc.length = k) ∧ Hid (Wk [b] w wr) ∧ Hid (Rdr wr B b restk) ∧ Hid (wr.ownsRow w.heap.size 55 8 v acc.length xs) ∧ Hid (Row VMt 8 wr (Rw w.heap.size wr v) xs acc) ∧ Hid (lstP meP bs = Cont meP (n.toNat - k) acc restk)) (fun _ i _ => n.toNat - (intOf i).toNat)
  case atStart => exact ⟨0, [], [], rest, by omega, by omega, rfl, rfl, HK, H1, World.ownsRow_nil _ _ _ _, Row.nil _ _ _ _, HQ0⟩
  case round =>
    obtain ⟨k, acc, xs, restk, hk, hrk, rfl, hacc, HKr, HRr, HOr, HWr, HQr⟩ := hrel
    have hsz := HKr.out.size
    have hbl := HRr.out.lt
    have hal : acc.length ≤ 500000 := by have := hacc.out; omega
    by_cases hlt2 : (k : Int) < n
    · go_wp2_with fail
      refine (methodP B b restk _ HRr.out (by omega)).mono ?_
      rintro e w2 ⟨hk2, hp⟩
      have hk2s := hk2.size
      have HKc := Lib.hid hk2
      have HK2 := Lib.hid (HKr.out.trans hk2)
      clear hk2
      obtain ⟨r, HP⟩ : ∃ r, Hid (meP restk = r) := ⟨_, rfl⟩
      rw [HP.out] at hp
      rcases r with _ | ⟨x, r'⟩
      · have HQ2 : Hid (lstP meP bs = none) := HQr.out.trans (by rw [show n.toNat - k = (n.toNat - (k + 1)) + 1 by omega]; exact cont_none HP.out)
        subst hp
        unfold shortE
        go_wp2_with fail
        refine And.intro rfl ?_
        show Rp _ _ _ _ _ _ _
        unfold Rp
        rw [HQ2.out]
        exact ⟨HK2.out, rfl⟩
      · have HQ2 : Hid (lstP meP bs = Cont meP (n.toNat - (k + 1)) (acc ++ [x]) r') := HQr.out.trans (by rw [show n.toNat - k = (n.toNat - (k + 1)) + 1 by omega]; exact cont_some HP.out)
        have her := eats_me _ _ _ HP.out
        obtain ⟨v, rfl, ⟨cs, rfl, hV⟩, hR2⟩ := hp
        have hV' := Lib.hid hV
        obtain ⟨vp, vc, vh, rfl, okx, svp, svc, svh⟩ := hV
        have hV := hV'.out
        clear hV'
        obtain ⟨aa0, cap0, hva, _, _, _⟩ := svp
        subst hva
        obtain ⟨aa1, cap1, hva, _, _, _⟩ := svc
        subst hva
        obtain ⟨aa2, cap2, hva, _, _, _⟩ := svh
        subst hva
        have HV := Lib.hid hV
        have H2 := Lib.hid hR2
        have HO2 := Lib.hid (own_keep HOr.out HKc.out (by simp; exact fun g hg e => by have := (HOr.out.lt g hg).1; omega))
        clear hV hR2
        go_wp2_with (at_builtin; refine wpList_append_lies _ rfl (.tmp 26) (.tmp 29) 23 rfl w.heap.size 55 i0 (.agg #[.slice none 0 0, .int .i64 0, .int .i64 0, .int .i64 0, .int .i64 0, .int .i64 0, .slice none 0 0, .slice none 0 0]) 8 112 Try.underlying23 hi hz0 hz1 hz2 rfl (by decide) _ acc.length xs (by simp [Act.eval, Act.put]) (HO2.out.alloc _) ⟨w2.heap.size, 0, none⟩ 1 1 [.slice aa0 x.params.length cap0, .int .i64 x.ret.kind, .int .i64 x.ret.cls, .int .i64 x.stack, .int .i64 x.locals, .int .i64 x.regs, .slice aa1 x.code.length cap1, .slice aa2 x.handlers.length cap2] (by simp [Act.eval, Act.put]) rfl (by exact news_at _ _ _) (by simp [Value.oneCell']) (by decide) (by unfold maxLen; omega) (by omega) (by simp; omega) _ rfl ?_; intro g2 cap2 w3 hown3 hgrow3 hat3 hlt3; have HA := Lib.hid (item_added HK2.out H2.out HO2.out HWr.out HKc.out hlt hsz (fun g hg => (HOr.out.lt g hg).2) HV.out sMt rfl hown3 hgrow3 hat3); clear hown3 hgrow3 hat3)
        obtain ⟨a1, a2, a3, a4⟩ := HA.out
        have A1 := Lib.hid a1; have A2 := Lib.hid a2; have A3 := Lib.hid a3; have A4 := Lib.hid a4
        clear a1 a2 a3 a4 HA hlt3
        have hlen2 : acc.length + 1 = (acc ++ [x]).length := by simp
        have HL2 := Lib.hid hlen2
        clear hlen2
        go_wp2_with fail
        go_roundw
        case rel => exact ⟨k + 1, acc ++ [x], _, r', by omega, by omega, by go_num, Lib.hid (by have := hacc.out; simp; omega), A1, A2, A3, A4, HQ2⟩
        case measure => simp [intOf]; omega
    · have hkn : n.toNat - k = 0 := by omega
      have HQ2 : Hid (lstP meP bs = some (acc, restk)) := HQr.out.trans (by rw [hkn]; exact cont_zero _ _ _)
      have HS := Lib.hid (Row.sl sMt HWr.out HOr.out (by omega) (P' := Nw w.heap.size _) (fun k hk => ⟨hk.1, hk.2.1⟩) (fun g hg => HOr.out.lt g hg))
      clear hkn
      go_wp2_with fail
      go_ret
      unfold Rp
      rw [HQ2.out]
      exact ⟨HKr.out, _, rfl, HS.out, HRr.out⟩

end Wire
end Go.Proofs.Ytncmhenfgbcihab
