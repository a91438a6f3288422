/- The words that a statement's row is told in; for all values. -/
import Derived.Test.YtdfgdpjlbcnkfaaGreatDoorProg
import Derived.Below
import Derived.Tactics
import Derived.WalkKit
import Derived.KernelRfl
import Derived.RowKit
import Derived.RowKit3
import Derived.Test.YtdfgdpjlbcnkfaaGreatDoorBodyWholeP6
namespace Go.Proofs.YtdfgdpjlbcnkfaaGreatDoorW.PrintMore
end Go.Proofs.YtdfgdpjlbcnkfaaGreatDoorW.PrintMore
namespace Go.Proofs.YtdfgdpjlbcnkfaaGreatDoor.Q
open Go.RowKit Go.Proofs.YtdfgdpjlbcnkfaaGreatDoorW.PrintWords Go.Proofs.YtdfgdpjlbcnkfaaGreatDoorW.PrintLast Go.Proofs.YtdfgdpjlbcnkfaaGreatDoorW.PrintMore
set_option linter.unusedVariables false
set_option linter.unusedSimpArgs false
structure S23 where
  f0 : Int
  f1 : Int
def k23 : Kd S23 := Kd.iso (Kd.pair (Kd.int .i64) (Kd.int .i64)) (fun x : S23 => (x.f0, x.f1))
theorem k23_open {w : World} {x : S23} {cs : List Value} (h : k23.K w x cs) : cs = [.int .i64 x.f0, .int .i64 x.f1] := by
  obtain ⟨_, _, rfl, rfl, rfl⟩ := h
  exact rfl
end Go.Proofs.YtdfgdpjlbcnkfaaGreatDoor.Q
