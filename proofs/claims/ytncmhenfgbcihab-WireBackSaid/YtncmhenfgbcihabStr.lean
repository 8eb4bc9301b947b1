/- Bytes as a string. -/
import Derived.Test.YtncmhenfgbcihabWrL
import Derived.Laws.BytesString
import Derived.Laws.BytesArg
namespace Go.Proofs.Ytncmhenfgbcihab
open Go.RowKit
set_option linter.unusedSimpArgs false
set_option linter.unusedVariables false
namespace Wire
open Num Rd D Bytes HierW

/-- a string of bytes -/
def S (bs : List UInt8) : ByteArray := ⟨bs.toArray⟩
theorem S_size (bs : List UInt8) : (S bs).size = bs.length := rfl
theorem S_app (a b : List UInt8) : S a ++ S b = S (a ++ b) := ByteArray.mk_append_mk a b
theorem S_inj {a b : List UInt8} (h : S a = S b) : a = b := by
  have := congrArg (fun x : ByteArray => x.data.toList) h
  simpa [S] using this
theorem S_nil : S [] = ⟨#[]⟩ := rfl

/-- a block of bytes, as a string -/
theorem convS (w : World) (b cap : Nat) (bs : List UInt8) (h : ∀ i (h : i < bs.length), w.cell? ⟨b, i, none⟩ = some (.int .u8 bs[i].toNat)) :
    (convert 27 9 (.slice (some ⟨b, 0, none⟩) bs.length cap)).run Try.prog w = .ok (.string (S bs)) w := by
  have := run_convert_bytes_arg (P := Try.prog) w 27 5 Try.underlying27 Try.underlying5 b 0 bs.length cap (bs.map fun c => (c.toNat : Int)) (by simp) (fun i hi => by
    rw [Nat.zero_add, h i hi]; simp [List.getD, hi]) 9 Try.underlying9
  have e : strOfNums (bs.map fun c => (c.toNat : Int)) = S bs := by
    unfold strOfNums S
    rw [List.map_map, show ((fun n : Int => UInt8.ofNat n.toNat) ∘ fun c : UInt8 => (c.toNat : Int)) = id from funext fun c => by simp, List.map_id]
  rw [this, e]
end Wire
end Go.Proofs.Ytncmhenfgbcihab
