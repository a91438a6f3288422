/- Plain Lean on what the printed functions answer (Law09); for all arguments that the lemmas name. -/
import Derived.Test.YtmmlacbcolfngaaDoorQ0
import Derived.Test.YtmmlacbcolfngaaDoorLNumbers
import Derived.Test.YtmmlacbcolfngaaDoorQTurnstilelaw09stub
import Derived.Test.YtmmlacbcolfngaaDoorQTurnstilelaw09stub2
import Derived.Test.YtmmlacbcolfngaaDoorQTurnstilelaw09
namespace Go.Proofs.YtmmlacbcolfngaaDoor.Q
open Go.RowKit Go.Proofs.YtmmlacbcolfngaaDoorW.PrintWords Go.Proofs.YtmmlacbcolfngaaDoorW.PrintLast Go.Proofs.YtmmlacbcolfngaaDoorW.PrintMore
set_option linter.unusedVariables false
set_option linter.unusedSimpArgs false
theorem sure_f : turnstilelaw09_sure.f = some true := by decide +kernel
theorem num_f (c : Int) : turnstilelaw09_num.f (errOf c) = some c := by
  unfold turnstilelaw09_num.f errOf
  split <;> simp_all
theorem fields_l0 (xs : List S67) (hxs : xs.length ≤ 4398046511104) : ∀ (l : List S67) (i : Int), 0 ≤ i → xs.drop i.toNat = l → i ≤ xs.length → Ev (fun k => turnstilelaw09_fields.l0 k xs xs i) true
  | [], i, h0, h, hi => by
    have e := lscan_nil h0 hi h
    refine Ev.step (fun k => by rw [turnstilelaw09_fields.l0]) ?_
    simp only [if_neg (show ¬ i < (xs.length : Int) by omega)]
    exact Ev.now _
  | f :: l, i, h0, h, hi => by
    obtain ⟨h2, h3, h4⟩ := lscan_cons h0 h
    refine Ev.step (fun k => by rw [turnstilelaw09_fields.l0]) ?_
    simp only [if_pos h2, if_pos h0, beq_self_eq_true, Bool.not_true, Bool.or_self, Bool.false_eq_true, if_false]
    rw [wrap_in (n := i + 1) (by omega)]
    exact fields_l0 xs hxs l (i + 1) (by omega) h4 (by omega)
theorem fields_ev (xs : List S67) (hxs : xs.length ≤ 4398046511104) : Ev (fun k => turnstilelaw09_fields.f k xs xs) true := by
  unfold turnstilelaw09_fields.f
  simp only [if_true]
  exact fields_l0 xs hxs xs 0 (by omega) rfl (by omega)

end Go.Proofs.YtmmlacbcolfngaaDoor.Q
