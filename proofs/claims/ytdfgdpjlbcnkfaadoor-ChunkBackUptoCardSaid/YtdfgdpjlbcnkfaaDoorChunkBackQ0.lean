/- The words that a statement's row is told in; for all values. -/
import Derived.Test.YtdfgdpjlbcnkfaaDoorProg
import Derived.Below
import Derived.Tactics
import Derived.WalkKit
import Derived.KernelRfl
import Derived.RowKit
import Derived.RowKit3
import Derived.Test.YtdfgdpjlbcnkfaaDoorChunkBackP4
namespace Go.Proofs.YtdfgdpjlbcnkfaaDoorW.PrintMore
end Go.Proofs.YtdfgdpjlbcnkfaaDoorW.PrintMore
namespace Go.Proofs.YtdfgdpjlbcnkfaaDoor.Q
open Go.RowKit Go.Proofs.YtdfgdpjlbcnkfaaDoorW.PrintWords Go.Proofs.YtdfgdpjlbcnkfaaDoorW.PrintLast Go.Proofs.YtdfgdpjlbcnkfaaDoorW.PrintMore
set_option linter.unusedVariables false
set_option linter.unusedSimpArgs false
structure S66 where
  f0 : ByteArray
  f1 : ByteArray
def k66 : Kd S66 := Kd.iso (Kd.pair Kd.string Kd.string) (fun x : S66 => (x.f0, x.f1))
theorem k66_open {w : World} {x : S66} {cs : List Value} (h : k66.K w x cs) : cs = [.string x.f0, .string x.f1] := by
  obtain ⟨_, _, rfl, rfl, rfl⟩ := h
  exact rfl
end Go.Proofs.YtdfgdpjlbcnkfaaDoor.Q
