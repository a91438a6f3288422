/- The words that a statement's row is told in; for all values. -/
import Derived.Test.YtdfgdpjlbcnkfaaDoorProg
import Derived.Below
import Derived.Tactics
import Derived.WalkKit
import Derived.KernelRfl
import Derived.RowKit
import Derived.RowKit3
import Derived.Test.YtdfgdpjlbcnkfaaDoorBodyCutsP4
namespace Go.Proofs.YtdfgdpjlbcnkfaaDoorW.PrintMore
end Go.Proofs.YtdfgdpjlbcnkfaaDoorW.PrintMore
namespace Go.Proofs.YtdfgdpjlbcnkfaaDoor.Q
open Go.RowKit Go.Proofs.YtdfgdpjlbcnkfaaDoorW.PrintWords Go.Proofs.YtdfgdpjlbcnkfaaDoorW.PrintLast Go.Proofs.YtdfgdpjlbcnkfaaDoorW.PrintMore
set_option linter.unusedVariables false
set_option linter.unusedSimpArgs false
structure S28 where
  f0 : Int
  f1 : Int
def k28 : Kd S28 := Kd.iso (Kd.pair (Kd.int .i64) (Kd.int .i64)) (fun x : S28 => (x.f0, x.f1))
theorem k28_open {w : World} {x : S28} {cs : List Value} (h : k28.K w x cs) : cs = [.int .i64 x.f0, .int .i64 x.f1] := by
  obtain ⟨_, _, rfl, rfl, rfl⟩ := h
  exact rfl
end Go.Proofs.YtdfgdpjlbcnkfaaDoor.Q
