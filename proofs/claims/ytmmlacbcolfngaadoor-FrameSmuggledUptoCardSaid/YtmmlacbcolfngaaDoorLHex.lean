/- Plain Lean on what the printed functions answer (Hex); for all arguments that the lemmas name. -/
import Derived.Test.YtmmlacbcolfngaaDoorQ0
import Derived.Test.YtmmlacbcolfngaaDoorLBase
import Derived.Test.YtmmlacbcolfngaaDoorQChars
import Derived.Test.YtmmlacbcolfngaaDoorQTurnstileref016
namespace Go.Proofs.YtmmlacbcolfngaaDoor.Q
open Go.RowKit Go.Proofs.YtmmlacbcolfngaaDoorW.PrintWords Go.Proofs.YtmmlacbcolfngaaDoorW.PrintLast Go.Proofs.YtmmlacbcolfngaaDoorW.PrintMore
set_option linter.unusedVariables false
set_option linter.unusedSimpArgs false
def hexV (c : Int) : Int × Bool := if 48 ≤ c ∧ c ≤ 57 then (c - 48, true) else if 97 ≤ c ∧ c ≤ 102 then (c - 87, true) else if 65 ≤ c ∧ c ≤ 70 then (c - 55, true) else (0, false)
theorem hex_ev (c : Int) (h0 : 0 ≤ c) (h1 : c ≤ 255) : Ev (fun k => chars_Hex.f k c) (hexV c) := Ev.of (fun k => chars_Hex.mono _ _) (k := 2) (byte_all (p := fun c => chars_Hex.f 2 c = some (hexV c)) (by decide +kernel) c h0 h1)
theorem rhex_ev (c : Int) (h0 : 0 ≤ c) (h1 : c ≤ 255) : Ev (fun k => turnstileref01_Hex.f k c) (hexV c) := Ev.of (fun k => turnstileref01_Hex.mono _ _) (k := 2) (byte_all (p := fun c => turnstileref01_Hex.f 2 c = some (hexV c)) (by decide +kernel) c h0 h1)

end Go.Proofs.YtmmlacbcolfngaaDoor.Q
