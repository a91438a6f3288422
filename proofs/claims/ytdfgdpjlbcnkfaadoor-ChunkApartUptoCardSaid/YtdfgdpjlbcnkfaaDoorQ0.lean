/- The words that a statement's row is told in, brought together; nothing is proved here. -/
import Derived.Test.YtdfgdpjlbcnkfaaDoorProg
import Derived.Below
import Derived.Tactics
import Derived.WalkKit
import Derived.KernelRfl
import Derived.RowKit
import Derived.RowKit3
import Derived.Test.YtdfgdpjlbcnkfaaDoorWWords
import Derived.Test.YtdfgdpjlbcnkfaaDoorWLast
namespace Go.Proofs.YtdfgdpjlbcnkfaaDoorW.PrintMore
end Go.Proofs.YtdfgdpjlbcnkfaaDoorW.PrintMore
