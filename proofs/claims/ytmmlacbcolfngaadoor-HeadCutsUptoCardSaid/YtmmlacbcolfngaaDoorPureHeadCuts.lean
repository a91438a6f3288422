/- The law HeadCuts in plain terms: what its printed function comes to is true; for all arguments that its lemma names. -/
import Derived.Test.YtmmlacbcolfngaaDoorQ0
import Derived.Test.YtmmlacbcolfngaaDoorQOpen
import Derived.Test.YtmmlacbcolfngaaDoorLBase
import Derived.Test.YtmmlacbcolfngaaDoorQLawheadcuts
namespace Go.Proofs.YtmmlacbcolfngaaDoor.Q
open Go.RowKit Go.Proofs.YtmmlacbcolfngaaDoorW.PrintWords Go.Proofs.YtmmlacbcolfngaaDoorW.PrintLast Go.Proofs.YtmmlacbcolfngaaDoorW.PrintMore
set_option linter.unusedVariables false
set_option linter.unusedSimpArgs false
theorem HeadCuts_pure (n : Nat) (hn : n ≤ 1048576) (a0 : List Int) (a1 : Bool) (a2 : Int) (h0 : a0.length + 1 ≤ n ∧ a0.length ≤ 9223372036854775807 ∧ ∀ x ∈ a0, (Lit.int .u8 x).wf = true) (h2 : (Lit.int .i64 a2).wf = true) : turnstilelaw09_HeadCuts.f a0 a1 a2 = some true := by
  obtain ⟨h01, _, h03⟩ := h0
  have hl : a0.length ≤ 2097152 := by omega
  have ha : a0.all (fun x => decide (0 ≤ x) && decide (x ≤ 255)) = true := by
    rw [List.all_eq_true]
    intro x hx
    have := wf_u8 (h03 x hx)
    simp [this.1, this.2]
  unfold turnstilelaw09_HeadCuts.f
  rw [if_pos hl, if_pos ha]
end Go.Proofs.YtmmlacbcolfngaaDoor.Q
