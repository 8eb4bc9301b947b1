/- Registers, plain: what the reference's table of kinds bars. -/
import Derived.Test.YtncmhenfgbcihaaRform
namespace Go.Proofs.Ytncmhenfgbcihaa
open Go.RowKit
set_option linter.unusedSimpArgs false
namespace Rform
open D Num Go.Proofs.Ytncmhenfgbcihaa.Form

theorem ins_none {f : Fi} {m : Me} {i : Ins} (h : kinds i.op = none) : ins f m i = false := by
  obtain ⟨op, a, b, c, n, args⟩ := i
  simp only at h
  by_cases h1 : op = 1
  · subst h1; simp [kinds] at h
  by_cases h2 : op = 2
  · subst h2; simp [kinds] at h
  by_cases h3 : op = 3
  · subst h3; simp [kinds] at h
  by_cases h4 : op = 4
  · subst h4; simp [kinds] at h
  by_cases h5 : op = 5
  · subst h5; simp [kinds] at h
  by_cases h6 : op = 6
  · subst h6; simp [kinds] at h
  by_cases h7 : op = 7
  · subst h7; simp [kinds] at h
  by_cases h8 : op = 8
  · subst h8; simp [kinds] at h
  by_cases h9 : op = 9
  · subst h9; simp [kinds] at h
  by_cases h10 : op = 10
  · subst h10; simp [kinds] at h
  by_cases h11 : op = 11
  · subst h11; simp [kinds] at h
  by_cases h12 : op = 12
  · subst h12; simp [kinds] at h
  by_cases h13 : op = 13
  · subst h13; simp [kinds] at h
  by_cases h14 : op = 14
  · subst h14; simp [kinds] at h
  by_cases h15 : op = 15
  · subst h15; simp [kinds] at h
  by_cases h16 : op = 16
  · subst h16; simp [kinds] at h
  by_cases h17 : op = 17
  · subst h17; simp [kinds] at h
  by_cases h18 : op = 18
  · subst h18; simp [kinds] at h
  by_cases h19 : op = 19
  · subst h19; simp [kinds] at h
  by_cases h20 : op = 20
  · subst h20; simp [kinds] at h
  by_cases h21 : op = 21
  · subst h21; simp [kinds] at h
  by_cases h22 : op = 22
  · subst h22; simp [kinds] at h
  by_cases h23 : op = 23
  · subst h23; simp [kinds] at h
  by_cases h24 : op = 24
  · subst h24; simp [kinds] at h
  have hb : body f.classes f.methods m.code.length m.regs m.ret.kind ⟨op, a, b, c, n, args⟩ = false := by
    unfold body
    simp only
    repeat rw [if_neg (by omega)]
  simp [ins, hb]
theorem reg_13 (regs n : Int) : reg regs n 1 = reg regs n 3 := rfl
theorem ins_fok {f : Fi} {m : Me} {i : Ins} {k0 k1 k2 : Int} (h : kinds i.op = some (k0, k1, k2)) (hf : fok m.regs k0 i.a = false ∨ fok m.regs k1 i.b = false ∨ fok m.regs k2 i.c = false) : ins f m i = false := by
  obtain ⟨op, a, b, c, n, args⟩ := i
  simp only at h hf
  by_cases h1 : op = 1
  · subst h1
    simp [kinds] at h
    obtain ⟨rfl, rfl, rfl⟩ := h
    rcases hf with hf | hf | hf <;> simp [fok] at hf <;> simp [ins, body, hf, reg_13]
  by_cases h2 : op = 2
  · subst h2
    simp [kinds] at h
    obtain ⟨rfl, rfl, rfl⟩ := h
    rcases hf with hf | hf | hf <;> simp [fok] at hf <;> simp [ins, body, hf, reg_13]
  by_cases h3 : op = 3
  · subst h3
    simp [kinds] at h
    obtain ⟨rfl, rfl, rfl⟩ := h
    rcases hf with hf | hf | hf <;> simp [fok] at hf <;> simp [ins, body, hf, reg_13]
  by_cases h4 : op = 4
  · subst h4
    simp [kinds] at h
    obtain ⟨rfl, rfl, rfl⟩ := h
    rcases hf with hf | hf | hf <;> simp [fok] at hf <;> simp [ins, body, hf, reg_13]
  by_cases h5 : op = 5
  · subst h5
    simp [kinds] at h
    obtain ⟨rfl, rfl, rfl⟩ := h
    rcases hf with hf | hf | hf <;> simp [fok] at hf <;> simp [ins, body, hf, reg_13]
  by_cases h6 : op = 6
  · subst h6
    simp [kinds] at h
    obtain ⟨rfl, rfl, rfl⟩ := h
    rcases hf with hf | hf | hf <;> simp [fok] at hf <;> simp [ins, body, hf, reg_13]
  by_cases h7 : op = 7
  · subst h7
    simp [kinds] at h
    obtain ⟨rfl, rfl, rfl⟩ := h
    rcases hf with hf | hf | hf <;> simp [fok] at hf <;> simp [ins, body, hf, reg_13]
  by_cases h8 : op = 8
  · subst h8
    simp [kinds] at h
    obtain ⟨rfl, rfl, rfl⟩ := h
    rcases hf with hf | hf | hf <;> simp [fok] at hf <;> simp [ins, body, hf, reg_13]
  by_cases h9 : op = 9
  · subst h9
    simp [kinds] at h
    obtain ⟨rfl, rfl, rfl⟩ := h
    rcases hf with hf | hf | hf <;> simp [fok] at hf <;> simp [ins, body, hf, reg_13]
  by_cases h10 : op = 10
  · subst h10
    simp [kinds] at h
    obtain ⟨rfl, rfl, rfl⟩ := h
    rcases hf with hf | hf | hf <;> simp [fok] at hf <;> simp [ins, body, hf, reg_13]
  by_cases h11 : op = 11
  · subst h11
    simp [kinds] at h
    obtain ⟨rfl, rfl, rfl⟩ := h
    rcases hf with hf | hf | hf <;> simp [fok] at hf <;> simp [ins, body, hf, reg_13]
  by_cases h12 : op = 12
  · subst h12
    simp [kinds] at h
    obtain ⟨rfl, rfl, rfl⟩ := h
    rcases hf with hf | hf | hf <;> simp [fok] at hf <;> simp [ins, body, hf, reg_13]
  by_cases h13 : op = 13
  · subst h13
    simp [kinds] at h
    obtain ⟨rfl, rfl, rfl⟩ := h
    rcases hf with hf | hf | hf <;> simp [fok] at hf <;> simp [ins, body, hf, reg_13]
  by_cases h14 : op = 14
  · subst h14
    simp [kinds] at h
    obtain ⟨rfl, rfl, rfl⟩ := h
    rcases hf with hf | hf | hf <;> simp [fok] at hf <;> simp [ins, body, hf, reg_13]
  by_cases h15 : op = 15
  · subst h15
    simp [kinds] at h
    obtain ⟨rfl, rfl, rfl⟩ := h
    rcases hf with hf | hf | hf <;> simp [fok] at hf <;> simp [ins, body, hf, reg_13]
  by_cases h16 : op = 16
  · subst h16
    simp [kinds] at h
    obtain ⟨rfl, rfl, rfl⟩ := h
    rcases hf with hf | hf | hf <;> simp [fok] at hf <;> simp [ins, body, hf, reg_13]
  by_cases h17 : op = 17
  · subst h17
    simp [kinds] at h
    obtain ⟨rfl, rfl, rfl⟩ := h
    rcases hf with hf | hf | hf <;> simp [fok] at hf <;> simp [ins, body, hf, reg_13]
  by_cases h18 : op = 18
  · subst h18
    simp [kinds] at h
    obtain ⟨rfl, rfl, rfl⟩ := h
    rcases hf with hf | hf | hf <;> simp [fok] at hf <;> simp [ins, body, hf, reg_13]
  by_cases h19 : op = 19
  · subst h19
    simp [kinds] at h
    obtain ⟨rfl, rfl, rfl⟩ := h
    rcases hf with hf | hf | hf <;> simp [fok] at hf <;> simp [ins, body, hf, reg_13]
  by_cases h20 : op = 20
  · subst h20
    simp [kinds] at h
    obtain ⟨rfl, rfl, rfl⟩ := h
    rcases hf with hf | hf | hf <;> simp [fok] at hf <;> simp [ins, body, hf, reg_13]
  by_cases h21 : op = 21
  · subst h21
    simp [kinds] at h
    obtain ⟨rfl, rfl, rfl⟩ := h
    rcases hf with hf | hf | hf <;> simp [fok] at hf <;> simp [ins, body, hf, reg_13]
  by_cases h22 : op = 22
  · subst h22
    simp [kinds] at h
    obtain ⟨rfl, rfl, rfl⟩ := h
    rcases hf with hf | hf | hf <;> simp [fok] at hf <;> simp [ins, body, hf, reg_13]
  by_cases h23 : op = 23
  · subst h23
    simp [kinds] at h
    obtain ⟨rfl, rfl, rfl⟩ := h
    rcases hf with hf | hf | hf <;> simp [fok] at hf <;> simp [ins, body, hf, reg_13]
  by_cases h24 : op = 24
  · subst h24
    simp [kinds] at h
    obtain ⟨rfl, rfl, rfl⟩ := h
    rcases hf with hf | hf | hf <;> simp [fok] at hf <;> simp [ins, body, hf, reg_13]
  exfalso
  unfold kinds at h
  repeat rw [if_neg (by omega)] at h
  cases h
end Rform
end Go.Proofs.Ytncmhenfgbcihaa
