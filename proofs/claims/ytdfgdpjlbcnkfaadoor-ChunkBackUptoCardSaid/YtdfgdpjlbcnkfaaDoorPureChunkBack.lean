/- The law ChunkBack in plain terms: what of its arguments' bounds the walk wants; for all arguments of bulk at most 1048576. -/
import Derived.Test.YtdfgdpjlbcnkfaaDoorChunkBackQO
import Derived.Test.YtdfgdpjlbcnkfaaDoorChunkBackP5
namespace Go.Proofs.YtdfgdpjlbcnkfaaDoor.Q
open Go.RowKit Go.Proofs.YtdfgdpjlbcnkfaaDoorW.PrintWords Go.Proofs.YtdfgdpjlbcnkfaaDoorW.PrintLast Go.Proofs.YtdfgdpjlbcnkfaaDoorW.PrintMore
set_option linter.unusedVariables false
set_option linter.unusedSimpArgs false
theorem ChunkBack_pure (n : Nat) (hn : n ≤ 1048576) (a0 : List (List Int)) (a1 : List S66) (a2 : ByteArray) (h0 : a0.length + 1 ≤ n ∧ a0.length ≤ 9223372036854775807 ∧ ∀ x ∈ a0, x.length + 1 ≤ n ∧ x.length ≤ 9223372036854775807 ∧ ∀ y ∈ x, (Lit.int .u8 y).wf = true) (h1 : a1.length + 1 ≤ n ∧ a1.length ≤ 9223372036854775807 ∧ ∀ x ∈ a1, BS66 n x) (h2 : a2.size + 1 ≤ n ∧ a2.size ≤ 9223372036854775807) :
    (a0.length ≤ 1048576 ∧ ∀ x ∈ a0, x.length ≤ 1048576 ∧ ∀ y ∈ x, 0 ≤ y ∧ y < 256) ∧ (a1.length ≤ 1048576 ∧ ∀ x ∈ a1, x.f0.size ≤ 1048576 ∧ x.f1.size ≤ 1048576) ∧ a2.size ≤ 1048576 := by
  refine ⟨⟨by omega, fun x hx => ⟨by have := (h0.2.2 x hx).1; omega, fun y hy => ?_⟩⟩, ⟨by omega, fun x hx => ?_⟩, by omega⟩
  · have := (h0.2.2 x hx).2.2 y hy
    simp [Lit.wf, IntKind.min, IntKind.max, IntKind.signed, IntKind.bits] at this
    omega
  · obtain ⟨⟨p1, _⟩, ⟨p2, _⟩⟩ := h1.2.2 x hx
    exact ⟨by omega, by omega⟩
end Go.Proofs.YtdfgdpjlbcnkfaaDoor.Q
