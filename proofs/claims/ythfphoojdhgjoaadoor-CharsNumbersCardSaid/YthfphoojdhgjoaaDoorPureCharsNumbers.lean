/- The law CharsNumbers in plain terms: what its printed function comes to is true; for all arguments that its lemma names. -/
import Derived.Test.YthfphoojdhgjoaaDoorQ0
import Derived.Test.YthfphoojdhgjoaaDoorQOpen
import Derived.Test.YthfphoojdhgjoaaDoorLTexts
import Derived.Test.YthfphoojdhgjoaaDoorQLawcharsnumbers
namespace Go.Proofs.YthfphoojdhgjoaaDoor.Q
open Go.RowKit Go.Proofs.YthfphoojdhgjoaaDoorW.PrintWords Go.Proofs.YthfphoojdhgjoaaDoorW.PrintLast Go.Proofs.YthfphoojdhgjoaaDoorW.PrintMore
set_option linter.unusedVariables false
set_option linter.unusedSimpArgs false
theorem num_f (c : Int) : turnstilelaw01_num.f (errOf c) = some c := by
  unfold turnstilelaw01_num.f errOf
  split <;> simp_all
theorem CharsNumbers_pure (n : Nat) (a0 : ByteArray) (a1 : Int) (a2 : Int) (h0 : a0.size + 1 ≤ n ∧ a0.size ≤ 9223372036854775807) (h1 : (Lit.int .i64 a1).wf = true) (h2 : (Lit.int .i64 a2).wf = true) : ∃ k, turnstilelaw01_CharsNumbers.f k a0 a1 a2 = some true := by
  have w1 := wf_i64 h1
  have w2 := wf_i64 h2
  refine Ev.rounds ?_
  unfold turnstilelaw01_CharsNumbers.f
  refine Ev.bind (decimal_ev a0 h0.2 a1 w1.2) ?_
  refine Ev.bind (rdecimal_ev a0 h0.2 a1 w1.2) ?_
  refine Ev.bind (hexnum_ev a0 h0.2 a1 w1.2) ?_
  refine Ev.bind (rhexnum_ev a0 h0.2 a1 w1.2) ?_
  simp only [hextext_f a2 w2.2, Option.bind_some]
  refine Ev.bind (rhextext_ev a2 w2.2) ?_
  simp only [num_f, Option.bind_some, if_true, text_f a2 w2.1 w2.2]
  refine Ev.bind (rtext_ev a2 w2.1 w2.2) ?_
  simp only [if_true]
  by_cases h : a2 < 0
  · simp only [if_pos h, if_true]
    have : turnstilelaw01_num.f (some 1) = some 1 := rfl
    simp only [this, Option.bind_some, if_true]
    exact Ev.bind sure_ev (Ev.now true)
  · simp only [if_neg h, if_true]
    have : turnstilelaw01_num.f none = some 0 := rfl
    simp only [this, Option.bind_some, if_true]
    exact Ev.bind sure_ev (Ev.now true)

end Go.Proofs.YthfphoojdhgjoaaDoor.Q
