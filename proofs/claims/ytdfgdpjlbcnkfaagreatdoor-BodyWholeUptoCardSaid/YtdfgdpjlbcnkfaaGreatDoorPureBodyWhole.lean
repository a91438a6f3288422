/- The law BodyWhole in plain terms: what of its arguments' bounds the walk wants; for all arguments of bulk at most 1048576. -/
import Derived.Test.YtdfgdpjlbcnkfaaGreatDoorBodyWholeQO
namespace Go.Proofs.YtdfgdpjlbcnkfaaGreatDoor.Q
open Go.RowKit
set_option linter.unusedVariables false
theorem BodyWhole_pure (n : Nat) (hn : n ≤ 1048576) (a0 : S23) (a1 : Int) (a2 : List Int) (h0 : BS23 n a0) (h1 : (Lit.int .i64 a1).wf = true) (h2 : a2.length + 1 ≤ n ∧ a2.length ≤ 9223372036854775807 ∧ ∀ x ∈ a2, (Lit.int .u8 x).wf = true) :
    (a2.length ≤ 1048576 ∧ ∀ x ∈ a2, 0 ≤ x ∧ x < 256) ∧ a1 ≤ 9223372036854775807 := by
  refine ⟨⟨by omega, fun x hx => ?_⟩, ?_⟩
  · have := h2.2.2 x hx
    simp [Lit.wf, IntKind.min, IntKind.max, IntKind.signed, IntKind.bits] at this
    omega
  · simp [Lit.wf, IntKind.min, IntKind.max, IntKind.signed, IntKind.bits] at h1
    omega
end Go.Proofs.YtdfgdpjlbcnkfaaGreatDoor.Q
