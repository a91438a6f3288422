/- Plain Lean on what the printed functions answer (Chars); for all arguments that the lemmas name. -/
import Derived.Test.YtmmlacbcolfngaaDoorQ0
import Derived.Test.YtmmlacbcolfngaaDoorLBase
import Derived.Test.YtmmlacbcolfngaaDoorQChars
import Derived.Test.YtmmlacbcolfngaaDoorQTurnstileref01
namespace Go.Proofs.YtmmlacbcolfngaaDoor.Q
open Go.RowKit Go.Proofs.YtmmlacbcolfngaaDoorW.PrintWords Go.Proofs.YtmmlacbcolfngaaDoorW.PrintLast Go.Proofs.YtmmlacbcolfngaaDoorW.PrintMore
set_option linter.unusedVariables false
set_option linter.unusedSimpArgs false
def isTok (c : Int) : Bool := (decide (48 ≤ c) && decide (c ≤ 57)) || (decide (97 ≤ c) && decide (c ≤ 122)) || (decide (65 ≤ c) && decide (c ≤ 90)) || [33, 35, 36, 37, 38, 39, 42, 43, 45, 46, 94, 95, 96, 124, 126].contains c
theorem tok_f (c : Int) (h0 : 0 ≤ c) (h1 : c ≤ 255) : chars_Token.f c = some (isTok c) := byte_all (p := fun c => chars_Token.f c = some (isTok c)) (by decide +kernel) c h0 h1
def tokL (l : List UInt8) : Bool := l.all fun b => isTok (b.toNat : Int)
theorem rtok_ev (c : Int) (h0 : 0 ≤ c) (h1 : c ≤ 255) : Ev (fun k => turnstileref01_Token.f k c) (isTok c) := Ev.of (fun k => turnstileref01_Token.mono _ _) (k := 20) (byte_all (p := fun c => turnstileref01_Token.f 20 c = some (isTok c)) (by decide +kernel) c h0 h1)
theorem ristok_l0 (s : ByteArray) (hs : s.size ≤ 9223372036854775807) : ∀ (l : List UInt8) (i : Int), 0 ≤ i → i ≤ s.size → s.data.toList.drop i.toNat = l → Ev (fun k => turnstileref01_IsToken.l0 k s i) (tokL l && decide (s.size ≠ 0))
  | [], i, h0, h1, h => by
    have e := scan_nil h0 h1 h
    refine Ev.step (fun k => by rw [turnstileref01_IsToken.l0]) ?_
    simp only [if_neg (show ¬ i < (s.size : Int) by omega)]
    refine Ev.congr (f := fun _ => some _) (fun k => ?_) (Ev.now _)
    simp only [tokL, List.all_nil, Bool.true_and, Option.some.injEq]
    rw [decide_eq_decide]
    omega
  | b :: l, i, h0, h1, h => by
    obtain ⟨h2, h3, h4⟩ := scan_cons h0 h
    have hb := byte_range b
    refine Ev.step (fun k => by rw [turnstileref01_IsToken.l0]) ?_
    simp only [if_pos h2, if_pos h0, h3]
    refine Ev.bind (rtok_ev _ hb.1 hb.2) ?_
    rw [wrap_in (by omega)]
    cases ht : isTok (b.toNat : Int)
    · simpa [tokL, ht] using Ev.now false
    · have := ristok_l0 s hs l (i + 1) (by omega) (by omega) h4
      simpa [tokL, ht] using this
theorem ristok_ev (s : ByteArray) (hs : s.size ≤ 9223372036854775807) : Ev (fun k => turnstileref01_IsToken.f k s) (tokL s.data.toList && decide (s.size ≠ 0)) := ristok_l0 s hs _ 0 (by omega) (by omega) rfl
theorem value_eq (c : Int) (h0 : 0 ≤ c) (h1 : c ≤ 255) : ∃ b, chars_Value.f c = some b ∧ turnstileref01_Value.f c = some b := by
  have := byte_all (p := fun c => chars_Value.f c = turnstileref01_Value.f c ∧ (chars_Value.f c).isSome = true) (by decide +kernel) c h0 h1
  obtain ⟨h2, h3⟩ := this
  obtain ⟨b, hb⟩ := Option.isSome_iff_exists.1 h3
  exact ⟨b, hb, h2 ▸ hb⟩
theorem visible_eq (c : Int) (h0 : 0 ≤ c) (h1 : c ≤ 255) : ∃ b, chars_Visible.f c = some b ∧ turnstileref01_Visible.f c = some b := by
  have := byte_all (p := fun c => chars_Visible.f c = turnstileref01_Visible.f c ∧ (chars_Visible.f c).isSome = true) (by decide +kernel) c h0 h1
  obtain ⟨h2, h3⟩ := this
  obtain ⟨b, hb⟩ := Option.isSome_iff_exists.1 h3
  exact ⟨b, hb, h2 ▸ hb⟩

end Go.Proofs.YtmmlacbcolfngaaDoor.Q
