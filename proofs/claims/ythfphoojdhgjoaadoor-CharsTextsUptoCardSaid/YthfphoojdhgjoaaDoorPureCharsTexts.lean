/- The law CharsTexts in plain terms: what its printed function comes to is true; for all arguments that its lemma names. -/
import Derived.Test.YthfphoojdhgjoaaDoorQ0
import Derived.Test.YthfphoojdhgjoaaDoorQOpen
import Derived.Test.YthfphoojdhgjoaaDoorLLists
import Derived.Test.YthfphoojdhgjoaaDoorQLawcharstexts
import Derived.Test.YthfphoojdhgjoaaDoorQTurnstilelaw01
namespace Go.Proofs.YthfphoojdhgjoaaDoor.Q
open Go.RowKit Go.Proofs.YthfphoojdhgjoaaDoorW.PrintWords Go.Proofs.YthfphoojdhgjoaaDoorW.PrintLast Go.Proofs.YthfphoojdhgjoaaDoorW.PrintMore
set_option linter.unusedVariables false
set_option linter.unusedSimpArgs false
theorem texts_l0 (ps : List ByteArray) (hps : ps.length ≤ 9223372036854775000) : ∀ (l : List ByteArray) (i : Int), 0 ≤ i → ps.drop i.toNat = l → i ≤ ps.length → Ev (fun k => turnstilelaw01_texts.l0 k ps ps i) true
  | [], i, h0, h, hi => by
    have e : ps.length ≤ i.toNat := by simpa using h
    refine Ev.step (fun k => by rw [turnstilelaw01_texts.l0]) ?_
    simp only [if_neg (show ¬ i < (ps.length : Int) by omega)]
    exact Ev.now _
  | x :: l, i, h0, h, hi => by
    have hl : i.toNat < ps.length := by
      rcases Nat.lt_or_ge i.toNat ps.length with h' | h'
      · exact h'
      · rw [List.drop_of_length_le h'] at h; cases h
    have hd := List.drop_eq_getElem_cons hl
    rw [hd] at h
    have hd' : ps.drop (i + 1).toNat = l := by rw [show (i + 1).toNat = i.toNat + 1 by omega]; exact (List.cons.inj h).2
    refine Ev.step (fun k => by rw [turnstilelaw01_texts.l0]) ?_
    simp only [if_pos (show i < (ps.length : Int) by omega), if_pos h0, if_true]
    rw [wrap_in (n := i + 1) (by omega)]
    exact texts_l0 ps hps l (i + 1) (by omega) hd' (by omega)
theorem CharsTexts_pure (n : Nat) (hn : n ≤ 1048576) (a0 : ByteArray) (a1 : ByteArray) (h0 : a0.size + 1 ≤ n ∧ a0.size ≤ 9223372036854775807) (h1 : a1.size + 1 ≤ n ∧ a1.size ≤ 9223372036854775807) : ∃ k, turnstilelaw01_CharsTexts.f k a0 a1 = some true := by
  refine Ev.rounds ?_
  unfold turnstilelaw01_CharsTexts.f
  simp only [lower_f a0 (by omega), Option.bind_some]
  refine Ev.bind (rlower_ev a0 (by omega)) ?_
  simp only [if_true, same_f a0 a1 (by omega) (by omega), Option.bind_some]
  refine Ev.bind (rsame_ev a0 a1 (by omega) (by omega)) ?_
  simp only [beq_self_eq_true, if_true, trim_f a0 h0.2, Option.bind_some]
  refine Ev.bind (rtrim_ev a0 h0.2) ?_
  simp only [if_true]
  refine Ev.bind (list_ev a0 (by omega)) ?_
  refine Ev.bind (rlist_ev a0 (by omega)) ?_
  have hl : (baL (elemsL a0.data.toList)).length ≤ 9223372036854775000 := by
    have := elemsL_len a0.data.toList
    rw [ba_len] at this
    simp [baL]
    omega
  have ht : Ev (fun k => turnstilelaw01_texts.f k (baL (elemsL a0.data.toList)) (baL (elemsL a0.data.toList))) true := by
    unfold turnstilelaw01_texts.f
    simp only [if_true]
    exact texts_l0 _ hl _ 0 (by omega) rfl (by omega)
  refine Ev.bind ht ?_
  simp only [if_true]
  exact Ev.bind sure_ev (Ev.now true)

end Go.Proofs.YthfphoojdhgjoaaDoor.Q
