/- The reference's bytes: wide, numbers, types. -/
import Derived.Test.YtncmhenfgbcihaaWrL
import Derived.Test.YtncmhenfgbcihaaDrawn
import Derived.Laws.BytesString
import Derived.Laws.BytesArg
import Derived.Laws.Concat
namespace Go.Proofs.Ytncmhenfgbcihaa
open Go.RowKit
set_option linter.unusedSimpArgs false
set_option linter.unusedVariables false
namespace Wire
open Num Rd D Bytes HierW

/-- a string of bytes -/
def S (bs : List UInt8) : ByteArray := ⟨bs.toArray⟩
theorem S_size (bs : List UInt8) : (S bs).size = bs.length := rfl
theorem S_app (a b : List UInt8) : S a ++ S b = S (a ++ b) := ByteArray.mk_append_mk a b
theorem S_inj {a b : List UInt8} (h : S a = S b) : a = b := by
  have := congrArg (fun x : ByteArray => x.data.toList) h
  simpa [S] using this
theorem S_nil : S [] = ⟨#[]⟩ := rfl

/-- what is left of a number behind j bytes -/
def q (n : Int) : Nat → Int
  | 0 => n
  | j + 1 => q n j / 256
def bt (n : Int) (j : Nat) : Value := .int .u8 (q n j % 256)
def arr (n : Int) (j : Nat) : Array Value := (List.replicate (8 - j) (Value.int .u8 0) ++ ((List.range j).map fun i => bt n (j - 1 - i))).toArray

theorem q_ok {n : Int} (h : Ok n) (j : Nat) : Ok (q n j) := by
  induction j with
  | zero => exact h
  | succ j ih => rw [q]; unfold Ok at *; omega
theorem rem_eq (x : Int) : (if x.tmod 256 < 0 then x.tmod 256 + 256 else x.tmod 256) = x % 256 := by
  by_cases h0 : 0 ≤ x
  · rw [Int.tmod_eq_emod_of_nonneg h0]; split <;> omega
  · have h1 : x.tmod 256 = -((-x) % 256) := by rw [← Int.tmod_eq_emod_of_nonneg (show 0 ≤ -x by omega), Int.neg_tmod, Int.neg_neg]
    rw [h1]; split <;> omega
theorem quo_eq (x : Int) : (x - x % 256).tdiv 256 = x / 256 := by
  rw [show x - x % 256 = 256 * (x / 256) by omega, Int.mul_tdiv_cancel_left _ (by omega)]

theorem q_shift (n : Int) (j : Nat) : q n (j + 1) = q (n / 256) j := by
  induction j with
  | zero => rfl
  | succ j ih => rw [q, ih, q]
theorem arr_get (n : Int) (j : Nat) (h : j < 8) : (arr n j)[7 - j]? = some (.int .u8 0) := by
  unfold arr
  rw [List.getElem?_toArray, List.getElem?_append_left (by simp; omega), List.getElem?_replicate, if_pos (by omega)]
theorem arr_set (n : Int) (j : Nat) (h : j < 8) : (arr n j).setIfInBounds (7 - j) (bt n j) = arr n (j + 1) := by
  simp only [arr, List.setIfInBounds_toArray]
  congr 1
  have e1 : List.replicate (8 - j) (Value.int .u8 0) = List.replicate (7 - j) (Value.int .u8 0) ++ [Value.int .u8 0] := by
    rw [show 8 - j = (7 - j) + 1 by omega, List.replicate_succ']
  rw [e1, List.append_assoc, List.set_append_right _ _ (by simp)]
  simp only [List.length_replicate, Nat.sub_self, List.cons_append, List.nil_append, List.set_cons_zero]
  rw [show 8 - (j + 1) = 7 - j by omega, List.range_succ_eq_map, List.map_cons, List.map_map]
  congr 2
  apply List.map_congr_left
  intro i _
  simp only [Function.comp]
  congr 1
  omega
theorem be_list (k : Nat) : ∀ n, be k n = (List.range k).map fun i => UInt8.ofNat (q n (k - 1 - i) % 256).toNat := by
  induction k with
  | zero => intro n; rfl
  | succ k ih =>
    intro n
    rw [be, ih, List.range_succ, List.map_append]
    congr 1
    · apply List.map_congr_left
      intro i hi
      have : i < k := by simpa using hi
      rw [show k + 1 - 1 - i = (k - 1 - i) + 1 by omega, q_shift]
    · simp [q]
theorem arr_cells (n : Int) : arr n 8 = (cells (Bytes.wide n)).toArray := by
  simp only [arr, cells, Bytes.wide, be_list, List.map_map]
  congr 1
  apply List.map_congr_left
  intro i _
  simp only [Function.comp, bt]
  rw [byte_nat]
/-- a block of bytes, as a string -/
theorem convS (w : World) (b cap : Nat) (bs : List UInt8) (h : ∀ i (h : i < bs.length), w.cell? ⟨b, i, none⟩ = some (.int .u8 bs[i].toNat)) :
    (convert 50 9 (.slice (some ⟨b, 0, none⟩) bs.length cap)).run Try.prog w = .ok (.string (S bs)) w := by
  have := run_convert_bytes_arg (P := Try.prog) w 50 5 Try.underlying50 Try.underlying5 b 0 bs.length cap (bs.map fun c => (c.toNat : Int)) (by simp) (fun i hi => by
    rw [Nat.zero_add, h i hi]; simp [List.getD, hi]) 9 Try.underlying9
  have e : strOfNums (bs.map fun c => (c.toNat : Int)) = S bs := by
    unfold strOfNums S
    rw [List.map_map, show ((fun n : Int => UInt8.ofNat n.toNat) ∘ fun c : UInt8 => (c.toNat : Int)) = id from funext fun c => by simp, List.map_id]
  rw [this, e]

set_option maxRecDepth 100000 in
set_option maxHeartbeats 4000000 in
theorem wideR (n : Int) (w : World) (hn : Ok n) :
    Calls Try.prog 67 #[.int .i64 n] w fun e w' => e = .returned (.string (S (Bytes.wide n))) ∧ Below w.heap.size w w' := by
  go_enter Try.func67, Try.ntmps67
  go_wp2
  go_loopw [0, 4] (fun x k wr => ∃ j : Nat, j ≤ 8 ∧ x = .int .i64 (q n j) ∧ k = .int .i64 (7 - (j : Int)) ∧ wr = w.alloc (.cells (arr n j) 126)) (fun _ k _ => (1 + intOf k).toNat)
  case atStart => exact ⟨0, by omega, rfl, rfl, rfl⟩
  case round =>
    obtain ⟨j, hj, rfl, rfl, rfl⟩ := hrel
    by_cases hlt : j < 8
    · have hok := q_ok hn j
      have hre := Lib.hid (rem_eq (q n j))
      have hqe := Lib.hid (quo_eq (q n j))
      have hb : Hid (bt n j = .int .u8 (q n j % 256)) := rfl
      have hget := arr_get n j hlt
      have hset := Lib.hid (arr_set n j hlt)
      go_wp2
      · rename_i _ hneg
        have h1 := hre.out
        rw [if_pos hneg] at h1
        rw [h1, wrap64_id (n := q n j % 256) (by unfold Ok; omega), wrap64_id (n := q n j - q n j % 256) (by unfold Ok at *; omega), hqe.out, wrap64_id (n := q n j / 256) (by unfold Ok at *; omega)]
        refine ⟨⟨j + 1, by omega, rfl, by congr 1; omega, ?_⟩, by simp [intOf]; omega⟩
        rw [Int.emod_emod_of_dvd _ (Int.dvd_refl _), ← hb.out, hset.out]
      · rename_i _ hneg
        have h1 := hre.out
        rw [if_neg (by omega)] at h1
        rw [h1, wrap64_id (n := q n j - q n j % 256) (by unfold Ok at *; omega), hqe.out, wrap64_id (n := q n j / 256) (by unfold Ok at *; omega)]
        refine ⟨⟨j + 1, by omega, rfl, by congr 1; omega, ?_⟩, by simp [intOf]; omega⟩
        rw [Int.emod_emod_of_dvd _ (Int.dvd_refl _), ← hb.out, hset.out]
    · rw [show (7 - (j : Int)) = -1 by omega]
      obtain rfl : j = 8 := by omega
      have hcv := convS (w.alloc (.cells (arr n 8) 126)) w.heap.size 8 (Bytes.wide n) (fun i hi => by
        rw [World.cell?_alloc_at _ _ _ _ rfl, arr_cells]
        simp [cells, hi])
      rw [wide_len] at hcv
      go_wp2
      go_ret
      exact ⟨rfl, (by repeat' (first | with_reducible exact Below.refl _ _ | with_reducible assumption | exact Nat.le_refl _ | with_reducible refine Go.Proofs.Ytncmhenfgbcihaa.Rd.below_drewN ?_ _ | with_reducible refine Below.alloc ?_ ?_ _ | with_reducible refine Below.setCell ?_ ?_ _ | with_reducible refine Below.drew ?_ | omega | (simp; omega) | (simp; done)))⟩

theorem tys_len (l : List Ty) : (l.flatMap tyB).length = 16 * l.length := by
  induction l with
  | nil => rfl
  | cons a l ih => simp [ih, tyB, wide_len]; omega
theorem ret_str {a b : List UInt8} (h : a = b) : Ending.returned (.string (S a)) = .returned (.string (S b)) := by rw [h]
theorem S_sum {a b : List UInt8} (h : a.length + b.length ≤ 9223372036854775807) : ¬ (9223372036854775807 < (S a).size + (S b).size) := by
  rw [S_size, S_size]; omega

set_option maxRecDepth 100000 in
set_option maxHeartbeats 2000000 in
theorem numbersR (v : Value) (l : List Int) (w : World) (hs : Sl 1 EInt w w.heap.size v l) (hlen : 8 * l.length ≤ 9223372036854775807) :
    Calls Try.prog 65 #[v] w fun e w' => e = .returned (.string (S (l.flatMap Bytes.wide))) ∧ Below w.heap.size w w' := by
  obtain ⟨a, cap, rfl, hlc, hcc, hel⟩ := hs
  go_enter Try.func65, Try.ntmps65
  go_wp2
  go_loopw [3, 4] (fun s i wr => ∃ k : Nat, k ≤ l.length ∧ i = .int .i64 k ∧ s = .string (S ((l.take k).flatMap Bytes.wide)) ∧ Below w.heap.size w wr) (fun _ i _ => l.length - (intOf i).toNat)
  case atStart => exact ⟨0, by omega, rfl, rfl, (by repeat' (first | with_reducible exact Below.refl _ _ | with_reducible assumption | exact Nat.le_refl _ | with_reducible refine Go.Proofs.Ytncmhenfgbcihaa.Rd.below_drewN ?_ _ | with_reducible refine Below.alloc ?_ ?_ _ | with_reducible refine Below.setCell ?_ ?_ _ | with_reducible refine Below.drew ?_ | omega | (simp; omega) | (simp; done)))⟩
  case round =>
    obtain ⟨k, hk, rfl, rfl, hb⟩ := hrel
    have hbs := hb.size
    have hbl : ((l.take k).flatMap Bytes.wide).length = 8 * k := by rw [wides_len, List.length_take, Nat.min_eq_left hk]
    obtain ⟨bk, hbk⟩ : ∃ bk, Hid ((l.take k).flatMap Bytes.wide = bk) := ⟨_, rfl⟩
    rw [hbk.out] at hbl ⊢
    by_cases hlt : k < l.length
    · have hst := Lib.hid (List.take_succ_eq_append_getElem hlt)
      obtain ⟨b1, o1, rfl, hb1, he⟩ := hel k hlt
      obtain ⟨x, hx⟩ := at_of hlt
      rw [hx.out] at he
      rw [hx.out] at hst
      obtain ⟨y0, ok0⟩ := he
      rw [Nat.mul_one] at y0
      have c0 := kept hb hb1 y0
      have HB := Lib.hid hb
      have hsum : ¬ (9223372036854775807 < (S bk).size + (S (Bytes.wide x)).size) := S_sum (by rw [wide_len]; omega)
      have happ : S bk ++ S (Bytes.wide x) = S (bk ++ Bytes.wide x) := S_app _ _
      have hI : (k : Int) < l.length := by omega
      clear hel y0 hbl hb
      go_wp2_with (go_at_call 67; refine (wideR x _ ok0).mono ?_; rintro e w1 ⟨rfl, hb1'⟩; have HB1 := Lib.hid (HB.out.trans (hb1'.mono hbs)); clear hb1')
      go_roundw
      case rel =>
        refine ⟨k + 1, by omega, by go_num, ?_, HB1.out⟩
        rw [hst.out, List.flatMap_append, hbk.out]
        simp
      case measure => simp [intOf]; omega
    · have hst := Lib.hid (List.take_of_length_le (l := l) (i := k) (by omega))
      have HBK : Hid (bk = l.flatMap Bytes.wide) := by show _ = _; rw [← hbk.out, hst.out]
      have hge : ¬ (k : Int) < l.length := by omega
      clear hel hbl
      go_wp2
      go_ret
      exact ⟨ret_str HBK.out, hb⟩

/-- fresh numbers, as a slice -/
theorem slInts {w : World} {nb : Nat} {l : List Int} (hlt : nb < w.heap.size) (hc : ∀ i (h : i < l.length), w.cell? ⟨nb, i, none⟩ = some (.int .i64 l[i])) (hok : ∀ i (h : i < l.length), Ok l[i]) (hl : l.length ≤ 9223372036854775807) : Sl 1 EInt w w.heap.size (.slice (some ⟨nb, 0, none⟩) l.length l.length) l :=
  ⟨_, l.length, rfl, Nat.le_refl _, hl, fun i hi => ⟨nb, 0, rfl, hlt, by rw [Nat.zero_add, Nat.mul_one]; exact ⟨hc i hi, hok i hi⟩⟩⟩

set_option maxRecDepth 100000 in
set_option maxHeartbeats 4000000 in
theorem typesR (v : Value) (l : List Ty) (w : World) (hs : Sl 2 ETy w w.heap.size v l) (hlen : 8 + 16 * l.length ≤ 9223372036854775807) :
    Calls Try.prog 66 #[v] w fun e w' => e = .returned (.string (S (lst tyB l))) ∧ Below w.heap.size w w' := by
  obtain ⟨a, cap, rfl, hlc, hcc, hel⟩ := hs
  go_enter Try.func66, Try.ntmps66
  go_wp2_with fail
  refine (numbersR _ [(l.length : Int)] _ (slInts (nb := w.heap.size) (by simp) (ints1 (by go_simp)) (ok1 (by unfold Ok; omega)) (by simp)) (by simp)).mono ?_
  rintro e w1 ⟨rfl, hb1⟩
  have hw1 : Below w.heap.size w w1 := Below.trans (by repeat' (first | with_reducible exact Below.refl _ _ | with_reducible assumption | exact Nat.le_refl _ | with_reducible refine Go.Proofs.Ytncmhenfgbcihaa.Rd.below_drewN ?_ _ | with_reducible refine Below.alloc ?_ ?_ _ | with_reducible refine Below.setCell ?_ ?_ _ | with_reducible refine Below.drew ?_ | omega | (simp; omega) | (simp; done))) (hb1.mono (by simp))
  have HW1 := Lib.hid hw1
  clear hw1 hb1
  go_wp2_with fail
  go_loopw [3, 4] (fun s i wr => ∃ k : Nat, k ≤ l.length ∧ i = .int .i64 k ∧ s = .string (S (Bytes.wide l.length ++ (l.take k).flatMap tyB)) ∧ Below w.heap.size w wr) (fun _ i _ => l.length - (intOf i).toNat)
  case atStart => exact ⟨0, by omega, rfl, by simp, HW1.out⟩
  case round =>
    obtain ⟨k, hk, rfl, rfl, hb⟩ := hrel
    have hbs := hb.size
    have hbl : (Bytes.wide l.length ++ (l.take k).flatMap tyB).length = 8 + 16 * k := by rw [List.length_append, wide_len, tys_len, List.length_take, Nat.min_eq_left hk]
    obtain ⟨bk, hbk⟩ : ∃ bk, Hid (Bytes.wide l.length ++ (l.take k).flatMap tyB = bk) := ⟨_, rfl⟩
    rw [hbk.out] at hbl ⊢
    by_cases hlt : k < l.length
    · have hst := Lib.hid (List.take_succ_eq_append_getElem hlt)
      obtain ⟨b1, o1, rfl, hb1, he⟩ := hel k hlt
      obtain ⟨x, hx⟩ := at_of hlt
      rw [hx.out] at he
      rw [hx.out] at hst
      obtain ⟨y0, y1, ok0, ok1⟩ := he
      have c0 := kept hb hb1 y0
      have c1 := kept hb hb1 y1
      have HB := Lib.hid hb
      have hsum : ¬ (9223372036854775807 < (S bk).size + (S (Bytes.wide x.kind ++ Bytes.wide x.cls)).size) := S_sum (by simp only [List.length_append, wide_len]; omega)
      have happ : S bk ++ S (Bytes.wide x.kind ++ Bytes.wide x.cls) = S (bk ++ tyB x) := S_app _ _
      have hI : (k : Int) < l.length := by omega
      have hlb := lt_cell' c0
      clear hel y0 y1 hbl hb
      go_wp2_with fail
      refine wp_region_held_drew (S := fun w' => w'.cell? ⟨b1, o1 + k * 2, none⟩ = some (.int .i64 x.kind) ∧ w'.cell? ⟨b1, o1 + k * 2 + 1, none⟩ = some (.int .i64 x.cls)) (by kernel_rfl) (by (try dsimp only); exact ⟨c0, c1⟩) (fun hHeld => ?_)
      refine Drawn.tk 0 (some 16) rfl rfl (by assumption) ?_
      try simp only [Act.put, List.setIfInBounds_toArray, List.set_cons_zero, List.set_cons_succ]
      refine Drawn.tk 1 (some 17) rfl rfl (by assumption) ?_
      try simp only [Act.put, List.setIfInBounds_toArray, List.set_cons_zero, List.set_cons_succ]
      refine Drawn.tk 2 (some 18) rfl rfl (by assumption) ?_
      try simp only [Act.put, List.setIfInBounds_toArray, List.set_cons_zero, List.set_cons_succ]
      refine Drawn.tk 3 (some 19) rfl rfl (by assumption) ?_
      try simp only [Act.put, List.setIfInBounds_toArray, List.set_cons_zero, List.set_cons_succ]
      refine Drawn.tk 4 (some 20) rfl rfl (by assumption) ?_
      try simp only [Act.put, List.setIfInBounds_toArray, List.set_cons_zero, List.set_cons_succ]
      refine Drawn.tk 5 (some 21) rfl rfl (by assumption) ?_
      try simp only [Act.put, List.setIfInBounds_toArray, List.set_cons_zero, List.set_cons_succ]
      refine Drawn.tk 6 (some 22) rfl rfl (by assumption) ?_
      try simp only [Act.put, List.setIfInBounds_toArray, List.set_cons_zero, List.set_cons_succ]
      refine Drawn.tk 7 (some 23) rfl rfl (by assumption) ?_
      try simp only [Act.put, List.setIfInBounds_toArray, List.set_cons_zero, List.set_cons_succ]
      refine Drawn.tk 8 (some 24) rfl rfl (by assumption) ?_
      try simp only [Act.put, List.setIfInBounds_toArray, List.set_cons_zero, List.set_cons_succ]
      refine Drawn.tk 9 (some 25) rfl rfl (by assumption) ?_
      try simp only [Act.put, List.setIfInBounds_toArray, List.set_cons_zero, List.set_cons_succ]
      refine wpAnyH_ready (rs := [10]) (by kernel_rfl) (by simp) ?_
      refine AllReadyH.cons rfl (fun K hK => ?_) AllReadyH.nil
      go_simp
      refine hK.out _ _ (by (try dsimp only); exact ⟨by go_simp, by go_simp⟩) (fun hHeld => ?_)
      clear hK K
      try simp only [Act.put, List.setIfInBounds_toArray, List.set_cons_zero, List.set_cons_succ]
      refine wpAnyH_ready (rs := [11]) (by kernel_rfl) (by simp) ?_
      refine AllReadyH.cons rfl (fun K hK => ?_) AllReadyH.nil
      go_simp
      go_at_call 65
      refine (numbersR _ [x.kind, x.cls] _ (slInts (nb := wr.heap.size) (by simp) (ints2 ⟨by go_simp, by go_simp⟩) (ok2 ok0 ok1) (by simp)) (by simp)).mono ?_
      rintro e w2 ⟨rfl, hb2⟩
      have hw2 : Below wr.heap.size wr w2 := Below.trans (by repeat' (first | with_reducible exact Below.refl _ _ | with_reducible assumption | exact Nat.le_refl _ | with_reducible refine Go.Proofs.Ytncmhenfgbcihaa.Rd.below_drewN ?_ _ | with_reducible refine Below.alloc ?_ ?_ _ | with_reducible refine Below.setCell ?_ ?_ _ | with_reducible refine Below.drew ?_ | omega | (simp; omega) | (simp; done))) (hb2.mono (by simp))
      have HB1 := Lib.hid (HB.out.trans (hw2.mono hbs))
      have d0 := kept hw2 hlb c0
      have d1 := kept hw2 hlb c1
      clear hb2 hw2 c0 c1
      go_wp2_with fail
      refine hK.out _ _ (by (try dsimp only); exact ⟨d0, d1⟩) (fun hHeld => ?_)
      clear hK K
      try simp only [Act.put, List.setIfInBounds_toArray, List.set_cons_zero, List.set_cons_succ]
      refine Drawn.tk 12 (some 5) rfl rfl (by assumption) ?_
      try simp only [Act.put, List.setIfInBounds_toArray, List.set_cons_zero, List.set_cons_succ]
      refine wpAnyH_done (by kernel_rfl) ?_ _
      go_wp2_with fail
      go_roundw
      case rel =>
        refine ⟨k + 1, by omega, by go_num, ?_, HB1.out⟩
        rw [hst.out, List.flatMap_append, ← List.append_assoc, hbk.out]
        simp
      case measure => simp [intOf]; omega
    · have hst := Lib.hid (List.take_of_length_le (l := l) (i := k) (by omega))
      have HBK : Hid (bk = lst tyB l) := by show _ = _; rw [← hbk.out, hst.out]; rfl
      have hge : ¬ (k : Int) < l.length := by omega
      clear hel hbl
      go_wp2
      go_ret
      exact ⟨ret_str HBK.out, hb⟩
end Wire
end Go.Proofs.Ytncmhenfgbcihaa
