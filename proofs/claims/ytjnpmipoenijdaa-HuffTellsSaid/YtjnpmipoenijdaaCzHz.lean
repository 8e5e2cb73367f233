/- Huff, part Z: arguments of bytes. -/
import Derived.Test.YtjnpmipoenijdaaCzHa
namespace Cz
open Go Go.RowKit Go.Proofs
set_option linter.unusedSimpArgs false
set_option linter.unusedVariables false
theorem u8b {n : Int} (h : lo .u8 ≤ n ∧ n ≤ Cz.hi .u8) : 0 ≤ n ∧ n < 256 := by
  simp only [lo, Cz.hi] at h
  omega
theorem pk1 {svs : List SV} (h : pkVs [.i .u8] svs) : ∃ v : Int, svs = by1 v ∧ (0 ≤ v ∧ v < 256) := by
  match svs, h with
  | [x], h =>
    simp only [pkVs, pkV] at h
    obtain ⟨⟨n, rfl, h1⟩, _⟩ := h
    exact ⟨n, rfl, u8b h1⟩
end Cz
