/- The words that a statement's row is told in; for all values. -/
import Derived.Test.YtdfgdpjlbcnkfaaGreatDoorProg
import Derived.Below
import Derived.Tactics
import Derived.WalkKit
import Derived.KernelRfl
import Derived.RowKit
import Derived.RowKit3
import Derived.Test.YtdfgdpjlbcnkfaaGreatDoorBodyFeedsP6
namespace Go.Proofs.YtdfgdpjlbcnkfaaGreatDoorW.PrintMore
end Go.Proofs.YtdfgdpjlbcnkfaaGreatDoorW.PrintMore
namespace Go.Proofs.YtdfgdpjlbcnkfaaGreatDoor.Q
open Go.RowKit Go.Proofs.YtdfgdpjlbcnkfaaGreatDoorW.PrintWords Go.Proofs.YtdfgdpjlbcnkfaaGreatDoorW.PrintLast Go.Proofs.YtdfgdpjlbcnkfaaGreatDoorW.PrintMore
set_option linter.unusedVariables false
set_option linter.unusedSimpArgs false
structure S23 where
  f0 : Int
  f1 : Int
def k23 : Kd S23 := Kd.iso (Kd.pair (Kd.int .i64) (Kd.int .i64)) (fun x : S23 => (x.f0, x.f1))
theorem k23_open {w : World} {x : S23} {cs : List Value} (h : k23.K w x cs) : cs = [.int .i64 x.f0, .int .i64 x.f1] := by
  obtain ⟨_, _, rfl, rfl, rfl⟩ := h
  exact rfl
structure S36 where
  f0 : S23
  f1 : Int
  f2 : (List (List Int))
  f3 : Bool
def k36 : Kd S36 := Kd.iso (Kd.pair k23 (Kd.pair (Kd.int .i64) (Kd.pair (Kd.slice 24 (Kd.slice 5 (Kd.int .u8))) Kd.bool))) (fun x : S36 => (x.f0, x.f1, x.f2, x.f3))
theorem k36_open {w : World} {x : S36} {cs : List Value} (h : k36.K w x cs) : ∃ A3 c3, cs = [.int .i64 x.f0.f0, .int .i64 x.f0.f1, .int .i64 x.f1, .slice A3 x.f2.length c3, .bool x.f3] ∧ x.f2.length ≤ c3 ∧ (Kd.slice 5 (Kd.int .u8)).C w A3 x.f2.length x.f2 := by
  obtain ⟨_, _, rfl, s0, ⟨_, _, rfl, rfl, ⟨_, _, rfl, ⟨A3, c3, rfl, l3, g3⟩, rfl⟩⟩⟩ := h
  obtain rfl := k23_open s0
  exact ⟨A3, c3, rfl, l3, g3⟩
end Go.Proofs.YtdfgdpjlbcnkfaaGreatDoor.Q
