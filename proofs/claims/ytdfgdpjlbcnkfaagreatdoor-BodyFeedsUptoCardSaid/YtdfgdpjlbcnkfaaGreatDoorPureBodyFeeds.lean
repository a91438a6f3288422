/- The law BodyFeeds in plain terms: what of its arguments' bounds the walk wants; for all arguments of bulk at most 1048576. -/
import Derived.Test.YtdfgdpjlbcnkfaaGreatDoorBodyFeedsQO
namespace Go.Proofs.YtdfgdpjlbcnkfaaGreatDoor.Q
open Go.RowKit
set_option linter.unusedVariables false
theorem BodyFeeds_pure (n : Nat) (hn : n ≤ 1048576) (a0 : S36) (h0 : BS36 n a0) :
    a0.f2.length ≤ 1048576 ∧ (∀ x ∈ a0.f2, x.length ≤ 1048576 ∧ ∀ y ∈ x, 0 ≤ y ∧ y < 256) ∧ a0.f1 ≤ 9223372036854775807 := by
  obtain ⟨_, h1, ⟨h2, _, h3⟩, _⟩ := h0
  refine ⟨by omega, fun x hx => ?_, ?_⟩
  · obtain ⟨h4, _, h5⟩ := h3 x hx
    refine ⟨by omega, fun y hy => ?_⟩
    have := h5 y hy
    simp [Lit.wf, IntKind.min, IntKind.max, IntKind.signed, IntKind.bits] at this
    omega
  · simp [Lit.wf, IntKind.min, IntKind.max, IntKind.signed, IntKind.bits] at h1
    omega
end Go.Proofs.YtdfgdpjlbcnkfaaGreatDoor.Q
