/- The law HeadSizes in plain terms: what its printed function comes to is true; for all arguments that its lemma names. -/
import Derived.Test.YtmmlacbcolfngaaDoorQ0
import Derived.Test.YtmmlacbcolfngaaDoorQOpen
import Derived.Test.YtmmlacbcolfngaaDoorLWr2
import Derived.Test.YtmmlacbcolfngaaDoorLLaw09
import Derived.Test.YtmmlacbcolfngaaDoorQLawheadsizes
namespace Go.Proofs.YtmmlacbcolfngaaDoor.Q
open Go.RowKit Go.Proofs.YtmmlacbcolfngaaDoorW.PrintWords Go.Proofs.YtmmlacbcolfngaaDoorW.PrintLast Go.Proofs.YtmmlacbcolfngaaDoorW.PrintMore
set_option linter.unusedVariables false
set_option linter.unusedSimpArgs false
theorem num22 : turnstilelaw09_num.f (some 22) = some 22 := num_f 22
theorem sizes_ev (qm qt : ByteArray) (m : Int) (l : List S67) (hqm : qm.size ≤ 1048576) (hqt : qt.size ≤ 1048576) (hl : l.length ≤ 1048576) (hok : ∀ f ∈ l, f.f0.size ≤ 1048576 ∧ f.f1.size ≤ 1048576) : Ev (fun k => turnstilelaw09_HeadSizes.f k qm qt m l) true := by
  have no : ∀ b, Ev (fun k => turnstilelaw09_HeadSizes.j0 k b true) true := fun b => by
    refine Ev.step (fun k => by rw [turnstilelaw09_HeadSizes.j0]) ?_
    simp only [if_true, sure_f, Option.bind_some]
    exact Ev.now _
  unfold turnstilelaw09_HeadSizes.f
  refine Ev.bind (written_ev qm qt m l hqm hqt hl hok) ?_
  by_cases h : wrOk qm qt m l = true
  · simp only [if_pos h]
    have F := wrOk_fact h
    by_cases hs : ((headL (reqL qm qt m) l ++ [10]).length : Int) ≤ 65536
    · have h2 : ¬ ((headL (reqL qm qt m) l ++ [10]).length : Int) < 2 := by
        have : (headL (reqL qm qt m) l).length ≠ 0 := by simp [headL]
        rw [List.length_append, List.length_cons, List.length_nil]
        push_cast
        omega
      have p1 := parse_written F ((headL (reqL qm qt m) l ++ [10]).length : Int) hs (by omega)
      obtain ⟨a, b, c, d, e, p2⟩ := parse_over F (((headL (reqL qm qt m) l ++ [10]).length : Int) - 1) (by omega) (by omega) (by omega)
      simp only [decide_eq_true hs, if_true, if_neg h2, decide_eq_false (show ¬ ((headL (reqL qm qt m) l ++ [10]).length : Int) > 65536 by omega)]
      refine Ev.step (fun k => by rw [turnstilelaw09_HeadSizes.j0]) ?_
      have hw : wrap64 (((headL (reqL qm qt m) l ++ [10]).length : Int) - 1) = ((headL (reqL qm qt m) l ++ [10]).length : Int) - 1 := wrap_in (by omega)
      simp only [hw, Bool.false_eq_true, if_false, p1, p2, Option.bind_some, Option.isNone_none, if_true, num22, sure_f]
      exact Ev.now _
    · simp only [decide_eq_false hs, Bool.false_eq_true, if_false]
      exact no _
  · simp only [if_neg h, Bool.false_eq_true, if_false]
    exact no _
theorem HeadSizes_pure (n : Nat) (hn : n ≤ 1048576) (a0 : S24) (h0 : BS24 n a0) : ∃ k, turnstilelaw09_HeadSizes.f k a0.f0 a0.f1 a0.f2 a0.f3 = some true := by
  unfold BS24 at h0
  obtain ⟨x1, x2, x3, x4, x5, x6⟩ := h0
  refine (sizes_ev a0.f0 a0.f1 a0.f2 a0.f3 (by omega) (by omega) (by omega) (fun f hf => ?_)).rounds
  have := x6 f hf
  unfold BS67 at this
  omega

end Go.Proofs.YtmmlacbcolfngaaDoor.Q
