/- The law FrameMessages in plain terms: what its printed function comes to is true; for all arguments that its lemma names. -/
import Derived.Test.YtmmlacbcolfngaaDoorQ0
import Derived.Test.YtmmlacbcolfngaaDoorQOpen
import Derived.Test.YtmmlacbcolfngaaDoorLRFrames
import Derived.Test.YtmmlacbcolfngaaDoorQLawframemessages
namespace Go.Proofs.YtmmlacbcolfngaaDoor.Q
open Go.RowKit Go.Proofs.YtmmlacbcolfngaaDoorW.PrintWords Go.Proofs.YtmmlacbcolfngaaDoorW.PrintLast Go.Proofs.YtmmlacbcolfngaaDoorW.PrintMore
set_option linter.unusedVariables false
set_option linter.unusedSimpArgs false
theorem sure_ev : Ev (fun k => turnstilelaw11_sure.f k) true := Ev.of (fun k => turnstilelaw11_sure.mono _) (k := 40) (by decide +kernel)
theorem num_f (c : Int) : turnstilelaw11_num.f (errOf c) = some c := by
  unfold turnstilelaw11_num.f errOf
  split <;> simp_all
theorem fok_of {n : Nat} (hn : n ≤ 1048576) {l : List S67} (h : ∀ x ∈ l, BS67 n x) : FOk 1048576 l := fun f hf => by
  have := h f hf
  simp only [BS67] at this
  omega
theorem FrameMessages_pure (n : Nat) (hn : n ≤ 1048576) (a0 : S24) (a1 : S26) (h0 : BS24 n a0) (h1 : BS26 n a1) : ∃ k, turnstilelaw11_FrameMessages.f k a0.f0 a0.f1 a0.f2 a0.f3 a1.f0 a1.f1 a1.f2 a1.f3 = some true := by
  simp only [BS24] at h0
  simp only [BS26] at h1
  refine Ev.rounds ?_
  unfold turnstilelaw11_FrameMessages.f
  have hk0 := fok_of hn h0.2.2.2.2.2
  have hk1 := fok_of hn h1.2.2.2.2.2
  refine Ev.bind (freq_ev _ _ _ _ (by omega) hk0) (Ev.bind (rreq_ev _ _ _ _ (by omega) hk0) (Ev.bind (fresp_ev _ _ _ _ _ (by omega) hk1) (Ev.bind (rresp_ev _ _ _ _ _ (by omega) hk1) ?_)))
  simp only [beq_self_eq_true, Bool.and_self, if_true, num_f, Option.bind_some]
  exact Ev.bind sure_ev (Ev.now true)

end Go.Proofs.YtmmlacbcolfngaaDoor.Q
