/- The law WriteFields in plain terms: what of its arguments' bounds the walk wants; for all arguments of bulk at most 1048576. -/
import Derived.Test.YtdmbgbennlnpcaaDoorWriteFieldsQO
import Derived.Test.YtdmbgbennlnpcaaDoorWriteFieldsP4
namespace Go.Proofs.YtdmbgbennlnpcaaDoor.Q
open Go.RowKit
set_option linter.unusedVariables false
theorem fok_of {n : Nat} (hn : n ≤ 1048576) {l : List S50} (h : l.length + 1 ≤ n ∧ l.length ≤ 9223372036854775807 ∧ ∀ x ∈ l, BS50 n x) : FOk l := by
  refine ⟨by omega, fun f hf => ?_⟩
  simp only [toF, List.mem_map] at hf
  obtain ⟨x, hx, rfl⟩ := hf
  obtain ⟨⟨h1, _⟩, h2, _⟩ := h.2.2 x hx
  exact ⟨by simp only; omega, by simp only; omega⟩
theorem WriteFields_pure (n : Nat) (hn : n ≤ 1048576) (a0 : List S50) (a1 : S49) (h0 : a0.length + 1 ≤ n ∧ a0.length ≤ 9223372036854775807 ∧ ∀ x ∈ a0, BS50 n x) (h1 : BS49 n a1) : FOk a0 ∧ a1.f0.size ≤ 1048576 ∧ a1.f1.size ≤ 1048576 := by
  obtain ⟨⟨q1, _⟩, ⟨q2, _⟩⟩ := h1
  exact ⟨fok_of hn h0, by omega, by omega⟩
end Go.Proofs.YtdmbgbennlnpcaaDoor.Q
