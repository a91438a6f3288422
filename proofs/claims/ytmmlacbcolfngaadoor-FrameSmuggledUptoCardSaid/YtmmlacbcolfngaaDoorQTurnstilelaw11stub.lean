/- What Go functions that a statement reaches come to, printed by a program of this session over the kit's printer; for all inputs at which the printed Lean function answers. -/
import Derived.Test.YtmmlacbcolfngaaDoorQ0
import Derived.Test.YtmmlacbcolfngaaDoorQErrorsstub
namespace Go.Proofs.YtmmlacbcolfngaaDoor.Q
open Go.RowKit Go.Proofs.YtmmlacbcolfngaaDoorW.PrintWords Go.Proofs.YtmmlacbcolfngaaDoorW.PrintLast Go.Proofs.YtmmlacbcolfngaaDoorW.PrintMore
attribute [local go_sem] max2_int min2_int max_two min_two max_three min_three max_four min_four
set_option linter.unusedVariables false
set_option linter.unusedSimpArgs false

/-! ### turnstilelaw11_num: function 30 -/
def turnstilelaw11_num.f (a0 : Option Int) : Option Int := some (a0.getD 0)
set_option maxHeartbeats 4000000 in
theorem turnstilelaw11_num.calls (a0 : Option Int) (r : Int) (w : World) (hG : GlobE w) (h : turnstilelaw11_num.f a0 = some r) :
    Calls Tryd.prog 30 #[errW a0] w fun e w' => e = .returned (.int .i64 r) ∧ Below w.heap.size w w' := by
  obtain rfl := Option.some.inj h
  cases a0 with
  | none =>
    go_enter Tryd.func30, Tryd.ntmps30
    simp only [errW_none]
    go_wp2
    go_ret
    exact ⟨rfl, by repeat (first | exact Below.refl _ _ | apply below_alloc | apply pw_below_drewN | apply below_drew1)⟩
  | some c =>
    have hg := (hG.below (below_alloc (Below.refl w.heap.size w) (.cells #[.int .i64 0] 98)))
    have ht : (w.alloc (.cells #[.int .i64 0] 98)).cell? ⟨w.heap.size, 0, none⟩ = some (.int .i64 0) := by simp
    have hf : (w.alloc (.cells #[.int .i64 0] 98)).frozen? ⟨w.heap.size, 0, none⟩ = false := by simp
    have hc := as_hit c ⟨w.heap.size, 0, none⟩ (.int .i64 0) _ hg ht hf
    clear hg ht hf hG
    go_enter Tryd.func30, Tryd.ntmps30
    simp only [errW_some]
    go_wp2_with (go_at_call 59; refine hc.mono ?_; rintro e w' ⟨rfl, rfl⟩)
    go_ret
    exact ⟨rfl, by repeat (first | exact Below.refl _ _ | apply below_alloc | apply pw_below_drewN | apply below_drew1)⟩

end Go.Proofs.YtmmlacbcolfngaaDoor.Q
