/- The law FrameFields in plain terms: what its printed function comes to is true; for all arguments that its lemma names. -/
import Derived.Test.YtmmlacbcolfngaaDoorQ0
import Derived.Test.YtmmlacbcolfngaaDoorQOpen
import Derived.Test.YtmmlacbcolfngaaDoorLRFrames
import Derived.Test.YtmmlacbcolfngaaDoorLFFields
import Derived.Test.YtmmlacbcolfngaaDoorQLawframefields
import Derived.Test.YtmmlacbcolfngaaDoorQTurnstilelaw113
namespace Go.Proofs.YtmmlacbcolfngaaDoor.Q
open Go.RowKit Go.Proofs.YtmmlacbcolfngaaDoorW.PrintWords Go.Proofs.YtmmlacbcolfngaaDoorW.PrintLast Go.Proofs.YtmmlacbcolfngaaDoorW.PrintMore
set_option linter.unusedVariables false
set_option linter.unusedSimpArgs false
theorem sure_ev : Ev (fun k => turnstilelaw11_sure.f k) true := Ev.of (fun k => turnstilelaw11_sure.mono _) (k := 40) (by decide +kernel)
theorem num_f (c : Int) : turnstilelaw11_num.f (errOf c) = some c := by
  unfold turnstilelaw11_num.f errOf
  split <;> simp_all
theorem fok_of {n : Nat} (hn : n ≤ 1048576) {l : List S67} (h : ∀ x ∈ l, BS67 n x) : FOk 1048576 l := fun f hf => by
  have := h f hf
  simp only [BS67] at this
  omega
theorem fields_l0 (xs : List S67) (hxs : xs.length ≤ 4398046511104) : ∀ (l : List S67) (i : Int), 0 ≤ i → xs.drop i.toNat = l → i ≤ xs.length → Ev (fun k => turnstilelaw11_fields.l0 k xs xs i) true
  | [], i, h0, h, hi => by
    have e := lscan_nil h0 hi h
    refine Ev.step (fun k => by rw [turnstilelaw11_fields.l0]) ?_
    simp only [if_neg (show ¬ i < (xs.length : Int) by omega)]
    exact Ev.now _
  | f :: l, i, h0, h, hi => by
    obtain ⟨h2, h3, h4⟩ := lscan_cons h0 h
    refine Ev.step (fun k => by rw [turnstilelaw11_fields.l0]) ?_
    simp only [if_pos h2, if_pos h0, beq_self_eq_true, Bool.not_true, Bool.or_self, Bool.false_eq_true, if_false]
    rw [wrap_in (n := i + 1) (by omega)]
    exact fields_l0 xs hxs l (i + 1) (by omega) h4 (by omega)
theorem fields_ev (xs : List S67) (hxs : xs.length ≤ 4398046511104) : Ev (fun k => turnstilelaw11_fields.f k xs xs) true := by
  unfold turnstilelaw11_fields.f
  simp only [if_true]
  exact fields_l0 xs hxs xs 0 (by omega) rfl (by omega)
theorem FrameFields_pure (n : Nat) (hn : n ≤ 1048576) (a0 : List S67) (a1 : S42) (h0 : a0.length + 1 ≤ n ∧ a0.length ≤ 9223372036854775807 ∧ ∀ x ∈ a0, BS67 n x) (h1 : BS42 n a1) : ∃ k, turnstilelaw11_FrameFields.f k a0 a1.f0 a1.f1 = some true := by
  simp only [BS42] at h1
  have hlen := wf_i64 h1.2
  have hk := fok_of hn h0.2.2
  refine Ev.rounds ?_
  unfold turnstilelaw11_FrameFields.f
  simp only [List.nil_append, List.length_nil, Nat.zero_add, if_pos (show a0.length < 4398046511104 by omega), Option.bind_some]
  refine Ev.bind (flen_ev a0 (by omega) hk) (Ev.bind (rlen_ev a0 (by omega) hk) (Ev.bind (fchk_ev a0 (by omega) hk) (Ev.bind (rchk_ev a0 (by omega) hk) (Ev.bind (ffields_ev a0 _ _ hlen (by omega) hk) (Ev.bind (rffields_ev a0 _ _ hlen (by omega) hk) ?_)))))
  simp only [beq_self_eq_true, if_true, num_f, Option.bind_some]
  have hfl : (ffieldsS a0 a1.f0 a1.f1).1.length ≤ 4398046511104 := by
    unfold ffieldsS
    split
    · have := List.length_filter_le plainF a0
      have h2 : (extraS a1.f0 a1.f1).length ≤ 1 := by unfold extraS; split <;> (try split) <;> simp
      simp only [List.length_append]
      omega
    · simp
  refine Ev.bind (fields_ev _ hfl) ?_
  simp only [if_true]
  refine Ev.bind (fields_ev a0 (by omega)) ?_
  simp only [if_true]
  exact Ev.bind sure_ev (Ev.now true)

end Go.Proofs.YtmmlacbcolfngaaDoor.Q
