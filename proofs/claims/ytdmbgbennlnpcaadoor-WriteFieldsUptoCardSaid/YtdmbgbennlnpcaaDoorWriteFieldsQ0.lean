/- The words that a statement's row is told in; for all values. -/
import Derived.Test.YtdmbgbennlnpcaaDoorProg
import Derived.Below
import Derived.Tactics
import Derived.WalkKit
import Derived.KernelRfl
import Derived.RowKit
import Derived.RowKit3
import Derived.Test.YtdmbgbennlnpcaaDoorWriteFieldsP3
namespace Go.Proofs.YtdmbgbennlnpcaaDoorW.PrintMore
end Go.Proofs.YtdmbgbennlnpcaaDoorW.PrintMore
namespace Go.Proofs.YtdmbgbennlnpcaaDoor.Q
open Go.RowKit Go.Proofs.YtdmbgbennlnpcaaDoorW.PrintWords Go.Proofs.YtdmbgbennlnpcaaDoorW.PrintLast Go.Proofs.YtdmbgbennlnpcaaDoorW.PrintMore
set_option linter.unusedVariables false
set_option linter.unusedSimpArgs false
structure S50 where
  f0 : ByteArray
  f1 : ByteArray
def k50 : Kd S50 := Kd.iso (Kd.pair Kd.string Kd.string) (fun x : S50 => (x.f0, x.f1))
theorem k50_open {w : World} {x : S50} {cs : List Value} (h : k50.K w x cs) : cs = [.string x.f0, .string x.f1] := by
  obtain ⟨_, _, rfl, rfl, rfl⟩ := h
  exact rfl
structure S49 where
  f0 : ByteArray
  f1 : ByteArray
def k49 : Kd S49 := Kd.iso (Kd.pair Kd.string Kd.string) (fun x : S49 => (x.f0, x.f1))
theorem k49_open {w : World} {x : S49} {cs : List Value} (h : k49.K w x cs) : cs = [.string x.f0, .string x.f1] := by
  obtain ⟨_, _, rfl, rfl, rfl⟩ := h
  exact rfl
end Go.Proofs.YtdmbgbennlnpcaaDoor.Q
