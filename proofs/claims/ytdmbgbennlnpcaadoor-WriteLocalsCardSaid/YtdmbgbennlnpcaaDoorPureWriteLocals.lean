/- The law WriteLocals in plain terms: the walk wants nothing of its arguments; for all arguments. -/
import Derived.Test.YtdmbgbennlnpcaaDoorWriteLocalsQO
namespace Go.Proofs.YtdmbgbennlnpcaaDoor.Q
open Go.RowKit
set_option linter.unusedVariables false
theorem WriteLocals_pure (n : Nat) (a0 : Int) (a1 : Int) (a2 : Bool) (h0 : (Lit.int .i64 a0).wf = true) (h1 : (Lit.int .i64 a1).wf = true) : True := trivial
end Go.Proofs.YtdmbgbennlnpcaaDoor.Q
