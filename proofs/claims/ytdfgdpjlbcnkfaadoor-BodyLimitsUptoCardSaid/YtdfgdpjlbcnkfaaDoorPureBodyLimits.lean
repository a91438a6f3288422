/- The law BodyLimits in plain terms: what of its arguments' bounds the walk wants; for all arguments of bulk at most 1048576. -/
import Derived.Test.YtdfgdpjlbcnkfaaDoorBodyLimitsQO
namespace Go.Proofs.YtdfgdpjlbcnkfaaDoor.Q
open Go.RowKit
set_option linter.unusedVariables false
theorem BodyLimits_pure (n : Nat) (hn : n ≤ 1048576) (a0 : List Int) (a1 : Int) (h0 : a0.length + 1 ≤ n ∧ a0.length ≤ 9223372036854775807 ∧ ∀ x ∈ a0, (Lit.int .u8 x).wf = true) (h1 : (Lit.int .i64 a1).wf = true) :
    a0.length ≤ 1048576 ∧ ∀ x ∈ a0, 0 ≤ x ∧ x < 256 := by
  refine ⟨by omega, fun x hx => ?_⟩
  have := h0.2.2 x hx
  simp [Lit.wf, IntKind.min, IntKind.max, IntKind.signed, IntKind.bits] at this
  omega
end Go.Proofs.YtdfgdpjlbcnkfaaDoor.Q
