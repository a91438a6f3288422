/- The law BodyCuts in plain terms: what of its arguments' bounds the walk wants; for all arguments of bulk at most 1048576. -/
import Derived.Test.YtdfgdpjlbcnkfaaDoorBodyCutsQO
namespace Go.Proofs.YtdfgdpjlbcnkfaaDoor.Q
open Go.RowKit
set_option linter.unusedVariables false
theorem BodyCuts_pure (n : Nat) (hn : n ≤ 1048576) (a0 : S28) (a1 : List Int) (a2 : Int) (h0 : BS28 n a0) (h1 : a1.length + 1 ≤ n ∧ a1.length ≤ 9223372036854775807 ∧ ∀ x ∈ a1, (Lit.int .u8 x).wf = true) (h2 : (Lit.int .i64 a2).wf = true) :
    (a1.length ≤ 1048576 ∧ ∀ x ∈ a1, 0 ≤ x ∧ x < 256) ∧ -9223372036854775808 ≤ a2 ∧ a2 ≤ 9223372036854775807 := by
  refine ⟨⟨by omega, fun x hx => ?_⟩, ?_⟩
  · have := h1.2.2 x hx
    simp [Lit.wf, IntKind.min, IntKind.max, IntKind.signed, IntKind.bits] at this
    omega
  · simp [Lit.wf, IntKind.min, IntKind.max, IntKind.signed, IntKind.bits] at h2
    omega
end Go.Proofs.YtdfgdpjlbcnkfaaDoor.Q
