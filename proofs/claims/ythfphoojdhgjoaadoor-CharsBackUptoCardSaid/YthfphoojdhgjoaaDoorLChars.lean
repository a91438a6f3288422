/- Plain Lean on what the printed functions answer (Chars); for all arguments that the lemmas name. -/
import Derived.Test.YthfphoojdhgjoaaDoorQ0
import Derived.Test.YthfphoojdhgjoaaDoorLBase
import Derived.Test.YthfphoojdhgjoaaDoorQChars
import Derived.Test.YthfphoojdhgjoaaDoorQTurnstileref01
import Derived.Test.YthfphoojdhgjoaaDoorQTurnstilelaw01
namespace Go.Proofs.YthfphoojdhgjoaaDoor.Q
open Go.RowKit Go.Proofs.YthfphoojdhgjoaaDoorW.PrintWords Go.Proofs.YthfphoojdhgjoaaDoorW.PrintLast Go.Proofs.YthfphoojdhgjoaaDoorW.PrintMore
set_option linter.unusedVariables false
set_option linter.unusedSimpArgs false
def isTok (c : Int) : Bool := (decide (48 ≤ c) && decide (c ≤ 57)) || (decide (97 ≤ c) && decide (c ≤ 122)) || (decide (65 ≤ c) && decide (c ≤ 90)) || [33, 35, 36, 37, 38, 39, 42, 43, 45, 46, 94, 95, 96, 124, 126].contains c
theorem tok_f (c : Int) (h0 : 0 ≤ c) (h1 : c ≤ 255) : chars_Token.f c = some (isTok c) := byte_all (p := fun c => chars_Token.f c = some (isTok c)) (by decide +kernel) c h0 h1
def tokL (l : List UInt8) : Bool := l.all fun b => isTok (b.toNat : Int)
theorem istok_l0 (s : ByteArray) (hs : s.size ≤ 9223372036854775807) : ∀ (l : List UInt8) (i : Int), 0 ≤ i → i ≤ s.size → s.data.toList.drop i.toNat = l → Ev (fun k => chars_IsToken.l0 k s i) (tokL l && decide (s.size ≠ 0))
  | [], i, h0, h1, h => by
    have e := scan_nil h0 h1 h
    refine Ev.step (fun k => by rw [chars_IsToken.l0]) ?_
    simp only [if_neg (show ¬ i < (s.size : Int) by omega)]
    refine Ev.congr (f := fun _ => some _) (fun k => ?_) (Ev.now _)
    rw [ba_toList]
    simp only [tokL, List.all_nil, Bool.true_and, Option.some.injEq]
    rw [← ba_len]
    cases s.data.toList <;> simp
  | b :: l, i, h0, h1, h => by
    obtain ⟨h2, h3, h4⟩ := scan_cons h0 h
    have hb := byte_range b
    refine Ev.step (fun k => by rw [chars_IsToken.l0]) ?_
    simp only [if_pos h2, if_pos h0, h3, tok_f _ hb.1 hb.2, Option.bind_some]
    rw [wrap_in (by omega)]
    cases ht : isTok (b.toNat : Int)
    · simpa [tokL, ht] using Ev.now false
    · have := istok_l0 s hs l (i + 1) (by omega) (by omega) h4
      simpa [tokL, ht] using this
theorem istok_ev (s : ByteArray) (hs : s.size ≤ 9223372036854775807) : Ev (fun k => chars_IsToken.f k s) (tokL s.data.toList && decide (s.size ≠ 0)) := istok_l0 s hs _ 0 (by omega) (by omega) rfl
def hexV (c : Int) : Int × Bool := if 48 ≤ c ∧ c ≤ 57 then (c - 48, true) else if 97 ≤ c ∧ c ≤ 102 then (c - 87, true) else if 65 ≤ c ∧ c ≤ 70 then (c - 55, true) else (0, false)
theorem hex_ev (c : Int) (h0 : 0 ≤ c) (h1 : c ≤ 255) : Ev (fun k => chars_Hex.f k c) (hexV c) := Ev.of (fun k => chars_Hex.mono _ _) (k := 2) (byte_all (p := fun c => chars_Hex.f 2 c = some (hexV c)) (by decide +kernel) c h0 h1)
theorem rhex_ev (c : Int) (h0 : 0 ≤ c) (h1 : c ≤ 255) : Ev (fun k => turnstileref01_Hex.f k c) (hexV c) := Ev.of (fun k => turnstileref01_Hex.mono _ _) (k := 2) (byte_all (p := fun c => turnstileref01_Hex.f 2 c = some (hexV c)) (by decide +kernel) c h0 h1)
def isDig (c : Int) : Bool := decide (48 ≤ c) && decide (c ≤ 57)
theorem dig_f (c : Int) (h0 : 0 ≤ c) (h1 : c ≤ 255) : chars_Digit.f c = some (isDig c) := byte_all (p := fun c => chars_Digit.f c = some (isDig c)) (by decide +kernel) c h0 h1
theorem rdig_f (c : Int) (h0 : 0 ≤ c) (h1 : c ≤ 255) : turnstileref01_Digit.f c = some (isDig c) := byte_all (p := fun c => turnstileref01_Digit.f c = some (isDig c)) (by decide +kernel) c h0 h1
theorem sure_ev : Ev (fun k => turnstilelaw01_sure.f k) true := Ev.of (fun k => turnstilelaw01_sure.mono _) (k := 20) (by decide +kernel)

end Go.Proofs.YthfphoojdhgjoaaDoor.Q
