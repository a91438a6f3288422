/- The law CharsBytes in plain terms: what its printed function comes to is true; for all arguments that its lemma names. -/
import Derived.Test.YthfphoojdhgjoaaQ0
import Derived.Test.YthfphoojdhgjoaaQOpen
import Derived.Test.YthfphoojdhgjoaaLChars
import Derived.Test.YthfphoojdhgjoaaQLawcharsbytes
namespace Go.Proofs.Ythfphoojdhgjoaa.Q
open Go.RowKit Go.Proofs.YthfphoojdhgjoaaW.PrintWords Go.Proofs.YthfphoojdhgjoaaW.PrintLast Go.Proofs.YthfphoojdhgjoaaW.PrintMore
set_option linter.unusedVariables false
set_option linter.unusedSimpArgs false
theorem CharsBytes_pure (n : Nat) (a0 : Int) (a1 : ByteArray) (h0 : (Lit.int .u8 a0).wf = true) (h1 : a1.size + 1 ≤ n ∧ a1.size ≤ 9223372036854775807) : ∃ k, turnstilelaw01_CharsBytes.f k a0 a1 = some true := by
  have hr := wf_u8 h0
  obtain ⟨v, hv1, hv2⟩ := value_eq a0 hr.1 hr.2
  obtain ⟨w, hw1, hw2⟩ := visible_eq a0 hr.1 hr.2
  refine Ev.rounds ?_
  unfold turnstilelaw01_CharsBytes.f
  refine Ev.bind (hex_ev a0 hr.1 hr.2) ?_
  refine Ev.bind (rhex_ev a0 hr.1 hr.2) ?_
  simp only [dig_f a0 hr.1 hr.2, rdig_f a0 hr.1 hr.2, Option.bind_some, beq_self_eq_true, if_true, tok_f a0 hr.1 hr.2]
  refine Ev.bind (rtok_ev a0 hr.1 hr.2) ?_
  simp only [hv1, hv2, hw1, hw2, Option.bind_some, beq_self_eq_true, if_true]
  refine Ev.bind (istok_ev a1 h1.2) ?_
  refine Ev.bind (ristok_ev a1 h1.2) ?_
  simp only [beq_self_eq_true, if_true]
  exact Ev.bind sure_ev (Ev.now true)

end Go.Proofs.Ythfphoojdhgjoaa.Q
