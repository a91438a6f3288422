/- What Go functions that a statement reaches come to, printed by a program of this session over the kit's printer; for all inputs at which the printed Lean function answers. -/
import Derived.Test.YtmmlacbcolfngaaDoorQ0
import Derived.Test.YtmmlacbcolfngaaDoorHLwCuts
namespace Go.Proofs.YtmmlacbcolfngaaDoor.Q
open Go.RowKit Go.Proofs.YtmmlacbcolfngaaDoorW.PrintWords Go.Proofs.YtmmlacbcolfngaaDoorW.PrintLast Go.Proofs.YtmmlacbcolfngaaDoorW.PrintMore
attribute [local go_sem] max2_int min2_int max_two min_two max_three min_three max_four min_four
set_option linter.unusedVariables false
set_option linter.unusedSimpArgs false

/-! ### turnstilelaw09_HeadCuts: function 7 -/
def turnstilelaw09_HeadCuts.f (l0 : List Int) (a1 : Bool) (a2 : Int) : Option Bool := if l0.length ≤ 2097152 then (if l0.all (fun x => decide (0 ≤ x) && decide (x ≤ 255)) = true then some true else none) else none
theorem turnstilelaw09_HeadCuts.calls (A0 : Option Addr) (c0 : Nat) (l0 : List Int) (a1 : Bool) (a2 : Int) (w : World) (hr0 : Kd.C (Kd.int .u8) w A0 l0.length l0) (hc0 : l0.length ≤ c0) (hGE : GlobE w) (h : turnstilelaw09_HeadCuts.f l0 a1 a2 = some true) :
    Calls Tryd.prog 7 #[.slice A0 l0.length c0, .bool a1, .int .i64 a2] w fun e w' => e = .returned (.bool true) ∧ Below w.heap.size w w' := by
  unfold turnstilelaw09_HeadCuts.f at h
  split at h
  · rename_i h1
    split at h
    · rename_i h2
      exact lwCuts w A0 c0 l0 a1 a2 hr0 hc0 hGE h1 (fun x hx => by simpa using List.all_eq_true.mp h2 x hx)
    · cases h
  · cases h

end Go.Proofs.YtmmlacbcolfngaaDoor.Q
