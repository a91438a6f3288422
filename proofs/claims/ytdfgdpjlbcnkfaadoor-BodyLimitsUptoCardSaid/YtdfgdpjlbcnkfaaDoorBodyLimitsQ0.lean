/- The words that a statement's row is told in; for all values. -/
import Derived.Test.YtdfgdpjlbcnkfaaDoorProg
import Derived.Below
import Derived.Tactics
import Derived.WalkKit
import Derived.KernelRfl
import Derived.RowKit
import Derived.RowKit3
import Derived.Test.YtdfgdpjlbcnkfaaDoorBodyLimitsP4
namespace Go.Proofs.YtdfgdpjlbcnkfaaDoorW.PrintMore
end Go.Proofs.YtdfgdpjlbcnkfaaDoorW.PrintMore
namespace Go.Proofs.YtdfgdpjlbcnkfaaDoor.Q
open Go.RowKit Go.Proofs.YtdfgdpjlbcnkfaaDoorW.PrintWords Go.Proofs.YtdfgdpjlbcnkfaaDoorW.PrintLast Go.Proofs.YtdfgdpjlbcnkfaaDoorW.PrintMore
set_option linter.unusedVariables false
set_option linter.unusedSimpArgs false
end Go.Proofs.YtdfgdpjlbcnkfaaDoor.Q
