/- The law WriteHeads in plain terms: what of its arguments' bounds the walk wants; for all arguments of bulk at most 1048576. -/
import Derived.Test.YtdmbgbennlnpcaaDoorWriteHeadsQO
import Derived.Test.YtdmbgbennlnpcaaDoorWriteHeadsP6
namespace Go.Proofs.YtdmbgbennlnpcaaDoor.Q
open Go.RowKit
set_option linter.unusedVariables false
theorem fok_of {n : Nat} (hn : n ≤ 1048576) {l : List S50} (h : l.length + 1 ≤ n ∧ l.length ≤ 9223372036854775807 ∧ ∀ x ∈ l, BS50 n x) : FOk l := by
  refine ⟨by omega, fun f hf => ?_⟩
  simp only [toF, List.mem_map] at hf
  obtain ⟨x, hx, rfl⟩ := hf
  obtain ⟨⟨h1, _⟩, h2, _⟩ := h.2.2 x hx
  exact ⟨by simp only; omega, by simp only; omega⟩
theorem WriteHeads_pure (n : Nat) (hn : n ≤ 1048576) (a0 : S38) (a1 : S24) (h0 : BS38 n a0) (h1 : BS24 n a1) :
    (a0.f0.size ≤ 1048576 ∧ a0.f1.size ≤ 1048576 ∧ FOk a0.f3) ∧ (a1.f1.size ≤ 1048576 ∧ FOk a1.f3) := by
  obtain ⟨⟨p1, _⟩, ⟨p2, _⟩, _, p3⟩ := h0
  obtain ⟨_, ⟨q2, _⟩, _, q3⟩ := h1
  exact ⟨⟨by omega, by omega, fok_of hn p3⟩, by omega, fok_of hn q3⟩
end Go.Proofs.YtdmbgbennlnpcaaDoor.Q
