/- Towards the walk through crosswalkref6.ins: the three kinds and the three fields. -/
import Derived.Test.YtncmhenfgbcihaaRefG
import Derived.Test.YtncmhenfgbcihaaFormRI
import Derived.Test.YtncmhenfgbcihaaDrawn
namespace Go.Proofs.Ytncmhenfgbcihaa
open Go.RowKit
set_option linter.unusedSimpArgs false
set_option linter.unusedVariables false
namespace RefG
open Num Rd D HierW FormW FormR

/-- the three kinds, the three fields -/
def pick (x y z : Int) (j : Nat) : Int := if j = 0 then x else if j = 1 then y else z
theorem fok_pick {f : Fi} {m : Me} {i : Ins} {k0 k1 k2 : Int} {j : Nat} (h : Rform.kinds i.op = some (k0, k1, k2)) (hf : Rform.fok m.regs (pick k0 k1 k2 j) (pick i.a i.b i.c j) = false) : Rform.ins f m i = false := by
  apply Rform.ins_fok h
  unfold pick at hf
  split at hf
  · exact .inl hf
  · split at hf
    · exact .inr (.inl hf)
    · exact .inr (.inr hf)
theorem cell_pick {W : World} {n : Nat} {x y z : Int} {j : Nat} (hj : j < 3) (h0 : W.cell? ⟨n, 0, none⟩ = some (.int .i64 x)) (h1 : W.cell? ⟨n, 1, none⟩ = some (.int .i64 y)) (h2 : W.cell? ⟨n, 2, none⟩ = some (.int .i64 z)) : W.cell? ⟨n, j, none⟩ = some (.int .i64 (pick x y z j)) := by
  have h : j = 0 ∨ j = 1 ∨ j = 2 := by omega
  rcases h with rfl | rfl | rfl
  · exact h0
  · exact h1
  · exact h2
theorem pick_ok {x y z : Int} (j : Nat) (hx : Ok x) (hy : Ok y) (hz : Ok z) : Ok (pick x y z j) := by
  unfold pick; split
  · exact hx
  · split
    · exact hy
    · exact hz

theorem namedB (w0 w : World) (op : Int) (hb : Below w0.heap.size w0 w) : Calls Try.prog 89 #[.int .i64 op] w fun e w' => Below w0.heap.size w0 w' ∧ Named w op e w' := (named op w).mono fun e w' h => ⟨hb.trans (h.1.mono hb.size), h⟩

end RefG
end Go.Proofs.Ytncmhenfgbcihaa
