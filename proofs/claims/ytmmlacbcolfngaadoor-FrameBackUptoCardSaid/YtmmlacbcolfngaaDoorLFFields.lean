/- Plain Lean on what the printed functions answer (FFields); for all arguments that the lemmas name. -/
import Derived.Test.YtmmlacbcolfngaaDoorQ0
import Derived.Test.YtmmlacbcolfngaaDoorLHeads
import Derived.Test.YtmmlacbcolfngaaDoorLTexts
import Derived.Test.YtmmlacbcolfngaaDoorQFrame
import Derived.Test.YtmmlacbcolfngaaDoorQTurnstileref113
namespace Go.Proofs.YtmmlacbcolfngaaDoor.Q
open Go.RowKit Go.Proofs.YtmmlacbcolfngaaDoorW.PrintWords Go.Proofs.YtmmlacbcolfngaaDoorW.PrintLast Go.Proofs.YtmmlacbcolfngaaDoorW.PrintMore
set_option linter.unusedVariables false
set_option linter.unusedSimpArgs false
def clN : List UInt8 := [67, 111, 110, 116, 101, 110, 116, 45, 76, 101, 110, 103, 116, 104]
def teN : List UInt8 := [84, 114, 97, 110, 115, 102, 101, 114, 45, 69, 110, 99, 111, 100, 105, 110, 103]
def plainF (f : S67) : Bool := !nameIs clN f && !nameIs teN f
def validS (kind len : Int) : Bool := if kind = 1 then decide (0 ≤ len) && decide (len ≤ 1099511627776) else (kind == 0 || kind == 2 || kind == 3) && len == 0
def extraS (kind len : Int) : List S67 := if kind = 1 then [⟨⟨clN.toArray⟩, ⟨(textL len).toArray⟩⟩] else if kind = 2 then [⟨⟨teN.toArray⟩, ⟨#[99, 104, 117, 110, 107, 101, 100]⟩⟩] else []
def ffieldsS (l : List S67) (kind len : Int) : List S67 × Int := if validS kind len = true then (l.filter plainF ++ extraS kind len, 0) else ([], 1)
theorem fvalid_f (kind len : Int) : frame_valid.f kind len = some (validS kind len) := by
  unfold frame_valid.f validS
  by_cases h1 : kind = 1
  · subst h1
    simp only [if_true]
    by_cases h2 : len ≥ 0
    · simp [h2, show 0 ≤ len from h2]
    · simp [h2, show ¬ 0 ≤ len from h2]
  · simp only [if_neg h1]
    by_cases h2 : kind = 0
    · simp [h2]
    · by_cases h3 : kind = 2
      · simp [h3]
      · by_cases h4 : kind = 3
        · simp [h4]
        · simp [h2, h3, h4]
theorem ffields_l0 (xs : List S67) (kind len : Int) (hlen : -9223372036854775808 ≤ len ∧ len ≤ 9223372036854775807) (hxs : xs.length ≤ 4194304) (hok : FOk 1048576 xs) : ∀ (l acc : List S67) (i : Int), 0 ≤ i → xs.drop i.toNat = l → i ≤ xs.length → (acc.length : Int) ≤ i →
    Ev (fun k => frame_Fields.l0 k acc xs (xs.length : Int) i kind len) (acc ++ l.filter plainF ++ extraS kind len, (none : Option Int))
  | [], acc, i, h0, h, hi, ha => by
    have e := lscan_nil h0 hi h
    refine Ev.step (fun k => by rw [frame_Fields.l0]) ?_
    have hal : acc.length < 4398046511104 := by omega
    simp only [if_neg (show ¬ i < (xs.length : Int) by omega), text_f len hlen.1 hlen.2, Option.bind_some, if_pos hal, List.filter_nil, List.append_nil]
    unfold extraS
    by_cases h1 : kind = 1
    · simp only [if_pos h1]
      exact Ev.now _
    · by_cases h2 : kind = 2
      · simp only [if_neg h1, if_pos h2]
        exact Ev.now _
      · simpa [h1, h2] using Ev.now (acc, (none : Option Int))
  | f :: l, acc, i, h0, h, hi, ha => by
    obtain ⟨h2, h3, h4⟩ := lscan_cons h0 h
    have hf : rd_T67 xs i = f := h3 _
    have hm : f ∈ xs := by
      have : f ∈ xs.drop i.toNat := by rw [h]; simp
      exact List.mem_of_mem_drop this
    have hs := (hok f hm).1
    have hal : acc.length < 4398046511104 := by omega
    refine Ev.step (fun k => by rw [frame_Fields.l0]) ?_
    have n1 : chars_Same.f f.f0 (⟨#[67, 111, 110, 116, 101, 110, 116, 45, 76, 101, 110, 103, 116, 104]⟩ : ByteArray) = some (nameIs clN f) := same_name _ f (by omega) (by decide)
    have n2 : chars_Same.f f.f0 (⟨#[84, 114, 97, 110, 115, 102, 101, 114, 45, 69, 110, 99, 111, 100, 105, 110, 103]⟩ : ByteArray) = some (nameIs teN f) := same_name _ f (by omega) (by decide)
    simp only [if_pos h2, if_pos h0, hf, n1, n2, Option.bind_some, if_pos hal]
    rw [wrap_in (n := i + 1) (by omega)]
    have ih := ffields_l0 xs kind len hlen hxs hok l acc (i + 1) (by omega) h4 (by omega) (by omega)
    have ih2 := ffields_l0 xs kind len hlen hxs hok l (acc ++ [f]) (i + 1) (by omega) h4 (by omega) (by simp; omega)
    rw [List.filter_cons]
    cases c1 : nameIs clN f
    · cases c2 : nameIs teN f
      · simpa [plainF, c1, c2] using ih2
      · simpa [plainF, c1, c2] using ih
    · simpa [plainF, c1] using ih
theorem ffields_ev (l : List S67) (kind len : Int) (hlen : -9223372036854775808 ≤ len ∧ len ≤ 9223372036854775807) (hl : l.length ≤ 4194304) (hok : FOk 1048576 l) : Ev (fun k => frame_Fields.f k l kind len) ((ffieldsS l kind len).1, errOf (ffieldsS l kind len).2) := by
  unfold frame_Fields.f ffieldsS
  simp only [fvalid_f, Option.bind_some]
  cases validS kind len
  · simpa [errOf] using Ev.now (([] : List S67), some (1 : Int))
  · have := ffields_l0 l kind len hlen hl hok l [] 0 (by omega) rfl (by omega) (by simp)
    simpa [errOf] using this
theorem rvalid_f (kind len : Int) : turnstileref11_Valid.f kind len = some (validS kind len) := by
  unfold turnstileref11_Valid.f validS
  by_cases h1 : kind = 1
  · subst h1
    by_cases h2 : len ≥ 0
    · by_cases h3 : len ≤ 1099511627776
      · simp [h2, h3, show 0 ≤ len from h2]
      · simp [h2, h3, show 0 ≤ len from h2]
    · simp [h2, show ¬ 0 ≤ len from h2]
  · simp only [if_neg h1]
    have hd : kind = 0 ∨ kind = 2 ∨ kind = 3 ∨ (¬ kind = 0 ∧ ¬ kind = 2 ∧ ¬ kind = 3) := by omega
    by_cases hz : len = 0
    · subst hz
      rcases hd with rfl | rfl | rfl | ⟨h2, h3, h4⟩
      · simp
      · simp
      · simp
      · by_cases h5 : kind ≥ 0
        · have : ¬ kind ≤ 3 := by omega
          simp [h2, h3, h4, h5, this]
        · simp [h2, h3, h4, h5]
    · have e : (len == 0) = false := beq_eq_false_iff_ne.2 hz
      simp only [e, Bool.and_false]
      split <;> (try split) <;> (try split) <;> (try split) <;> simp
theorem rffields_l0 (xs : List S67) (kind len : Int) (hlen : -9223372036854775808 ≤ len ∧ len ≤ 9223372036854775807) (hxs : xs.length ≤ 4194304) (hok : FOk 1048576 xs) : ∀ (l acc : List S67) (i : Int), 0 ≤ i → xs.drop i.toNat = l → i ≤ xs.length → (acc.length : Int) ≤ i →
    Ev (fun k => turnstileref11_Fields.l0 k xs acc i kind len) (acc ++ l.filter plainF ++ extraS kind len, (0 : Int))
  | [], acc, i, h0, h, hi, ha => by
    have e := lscan_nil h0 hi h
    refine Ev.step (fun k => by rw [turnstileref11_Fields.l0]) ?_
    have hal : acc.length < 4398046511104 := by omega
    simp only [if_neg (show ¬ i < (xs.length : Int) by omega), if_pos hal, List.filter_nil, List.append_nil]
    unfold extraS
    by_cases h1 : kind = 1
    · simp only [if_pos h1]
      exact Ev.bind (rtext_ev len hlen.1 hlen.2) (Ev.now _)
    · by_cases h2 : kind = 2
      · simp only [if_neg h1, if_pos h2]
        exact Ev.now _
      · simpa [h1, h2] using Ev.now (acc, (0 : Int))
  | f :: l, acc, i, h0, h, hi, ha => by
    obtain ⟨h2, h3, h4⟩ := lscan_cons h0 h
    have hf : rd_T67 xs i = f := h3 _
    have hm : f ∈ xs := by
      have : f ∈ xs.drop i.toNat := by rw [h]; simp
      exact List.mem_of_mem_drop this
    have hs := (hok f hm).1
    have hal : acc.length < 4398046511104 := by omega
    refine Ev.step (fun k => by rw [turnstileref11_Fields.l0]) ?_
    simp only [if_pos h2, if_pos h0, hf]
    refine Ev.bind (rsame_ev _ _ (by omega) (show (⟨#[67, 111, 110, 116, 101, 110, 116, 45, 76, 101, 110, 103, 116, 104]⟩ : ByteArray).size ≤ 140737488355327 by decide)) ?_
    rw [wrap_in (n := i + 1) (by omega)]
    have ih := rffields_l0 xs kind len hlen hxs hok l acc (i + 1) (by omega) h4 (by omega) (by omega)
    have ih2 := rffields_l0 xs kind len hlen hxs hok l (acc ++ [f]) (i + 1) (by omega) h4 (by omega) (by simp; omega)
    rw [List.filter_cons]
    show Ev (fun k => if nameIs clN f = true then _ else _) _
    cases c1 : nameIs clN f
    · simp only [Bool.false_eq_true, if_false]
      refine Ev.bind (rsame_ev _ _ (by omega) (show (⟨#[84, 114, 97, 110, 115, 102, 101, 114, 45, 69, 110, 99, 111, 100, 105, 110, 103]⟩ : ByteArray).size ≤ 140737488355327 by decide)) ?_
      show Ev (fun k => if nameIs teN f = true then _ else _) _
      cases c2 : nameIs teN f
      · simp only [Bool.false_eq_true, if_false, if_pos hal]
        simpa [plainF, c1, c2] using ih2
      · simpa [plainF, c1, c2] using ih
    · simpa [plainF, c1] using ih
theorem rffields_ev (l : List S67) (kind len : Int) (hlen : -9223372036854775808 ≤ len ∧ len ≤ 9223372036854775807) (hl : l.length ≤ 4194304) (hok : FOk 1048576 l) : Ev (fun k => turnstileref11_Fields.f k l kind len) (ffieldsS l kind len) := by
  unfold turnstileref11_Fields.f ffieldsS
  simp only [rvalid_f, Option.bind_some]
  cases validS kind len
  · simpa using Ev.now (([] : List S67), (1 : Int))
  · have := rffields_l0 l kind len hlen hl hok l [] 0 (by omega) rfl (by omega) (by simp)
    simpa using this

end Go.Proofs.YtmmlacbcolfngaaDoor.Q
