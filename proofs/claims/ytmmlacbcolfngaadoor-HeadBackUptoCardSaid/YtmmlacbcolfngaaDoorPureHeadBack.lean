/- The law HeadBack in plain terms: what its printed function comes to is true; for all arguments that its lemma names. -/
import Derived.Test.YtmmlacbcolfngaaDoorQ0
import Derived.Test.YtmmlacbcolfngaaDoorQOpen
import Derived.Test.YtmmlacbcolfngaaDoorLWrAll
import Derived.Test.YtmmlacbcolfngaaDoorQLawheadback
import Derived.Test.YtmmlacbcolfngaaDoorQTurnstilelaw092
namespace Go.Proofs.YtmmlacbcolfngaaDoor.Q
open Go.RowKit Go.Proofs.YtmmlacbcolfngaaDoorW.PrintWords Go.Proofs.YtmmlacbcolfngaaDoorW.PrintLast Go.Proofs.YtmmlacbcolfngaaDoorW.PrintMore
set_option linter.unusedVariables false
set_option linter.unusedSimpArgs false
theorem requests_ev (qm qt : ByteArray) (m : Int) (l : List S67) (hl : l.length ≤ 4398046511104) : Ev (fun k => turnstilelaw09_requests.f k qm qt m l qm qt m l) true := by
  unfold turnstilelaw09_requests.f
  simp only [if_true]
  exact Ev.bind (fields_ev l hl) (Ev.now _)
theorem responses_ev (st : Int) (pr : ByteArray) (m : Int) (l : List S67) (hl : l.length ≤ 4398046511104) : Ev (fun k => turnstilelaw09_responses.f k st pr m l st pr m l) true := by
  unfold turnstilelaw09_responses.f
  simp only [if_true]
  exact Ev.bind (fields_ev l hl) (Ev.now _)
theorem back_ev (qm qt : ByteArray) (m : Int) (l : List S67) (st : Int) (pr : ByteArray) (pm : Int) (pl : List S67) (hqm : qm.size ≤ 1048576) (hqt : qt.size ≤ 1048576) (hl : l.length ≤ 1048576) (hok : ∀ f ∈ l, f.f0.size ≤ 1048576 ∧ f.f1.size ≤ 1048576)
    (hpr : pr.size ≤ 1048576) (hpl : pl.length ≤ 1048576) (hpk : ∀ f ∈ pl, f.f0.size ≤ 1048576 ∧ f.f1.size ≤ 1048576) : Ev (fun k => turnstilelaw09_HeadBack.f k qm qt m l st pr pm pl) true := by
  have two : Ev (fun k => turnstilelaw09_HeadBack.j0 k st pr pm pl) true := by
    refine Ev.step (fun k => by rw [turnstilelaw09_HeadBack.j0]) ?_
    refine Ev.bind (answered_ev st pr pm pl hpr hpl hpk) ?_
    by_cases h : anOk st pr pm pl = true
    · simp only [if_pos h]
      by_cases hs : ((headL (statL pm (codeI st) pr) pl ++ [10]).length : Int) ≤ 65536
      · simp only [decide_eq_true hs, if_true, parse_answered h hs, Option.bind_some, Option.isNone_none]
        refine Ev.bind (responses_ev st pr pm pl (by omega)) ?_
        simp only [if_true, sure_f, Option.bind_some]
        exact Ev.now _
      · simp only [decide_eq_false hs, Bool.false_eq_true, if_false, sure_f, Option.bind_some]
        exact Ev.now _
    · simp only [if_neg h, Bool.false_eq_true, if_false, sure_f, Option.bind_some]
      exact Ev.now _
  unfold turnstilelaw09_HeadBack.f
  refine Ev.bind (written_ev qm qt m l hqm hqt hl hok) ?_
  by_cases h : wrOk qm qt m l = true
  · simp only [if_pos h]
    by_cases hs : ((headL (reqL qm qt m) l ++ [10]).length : Int) ≤ 65536
    · simp only [decide_eq_true hs, if_true, parse_written (wrOk_fact h) 65536 (by omega) hs, Option.bind_some, Option.isNone_none]
      refine Ev.bind (requests_ev qm qt m l (by omega)) ?_
      simp only [if_true]
      exact two
    · simp only [decide_eq_false hs, Bool.false_eq_true, if_false]
      exact two
  · simp only [if_neg h, Bool.false_eq_true, if_false]
    exact two
theorem HeadBack_pure (n : Nat) (hn : n ≤ 1048576) (a0 : S24) (a1 : S26) (h0 : BS24 n a0) (h1 : BS26 n a1) : ∃ k, turnstilelaw09_HeadBack.f k a0.f0 a0.f1 a0.f2 a0.f3 a1.f0 a1.f1 a1.f2 a1.f3 = some true := by
  unfold BS24 at h0
  unfold BS26 at h1
  obtain ⟨x1, x2, x3, x4, x5, x6⟩ := h0
  obtain ⟨y1, y2, y3, y4, y5, y6⟩ := h1
  refine (back_ev a0.f0 a0.f1 a0.f2 a0.f3 a1.f0 a1.f1 a1.f2 a1.f3 (by omega) (by omega) (by omega) (fun f hf => ?_) (by omega) (by omega) (fun f hf => ?_)).rounds
  · have := x6 f hf
    unfold BS67 at this
    omega
  · have := y6 f hf
    unfold BS67 at this
    omega

end Go.Proofs.YtmmlacbcolfngaaDoor.Q
