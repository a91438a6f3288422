/- What the law WriteLocals needs, part 5: the runner over a plain memory, words, the functions that it reaches, each by its own contract; for the inputs that each theorem names. -/
import Derived.Test.YtdmbgbennlnpcaaDoorWriteLocalsP4
namespace Go.Proofs.YtdmbgbennlnpcaaDoor.Q
open Go Go.Proofs.YtdmbgbennlnpcaaDoorAbs Go.Proofs Go.RowKit Go.Proofs.YtdmbgbennlnpcaaDoorW.PrintWords
set_option linter.unusedVariables false
set_option linter.unusedSimpArgs false
theorem turnstilelaw10_WriteLocals.calls (status m : Int) (last : Bool) (w : World) (hT : PowIs w) (hG : 6 < w.heap.size) (hp : True) :
    Calls Tryd.prog 3 #[.int .i64 status, .int .i64 m, .bool last] w fun e w' => e = .returned (.bool true) ∧ Below w.heap.size w w' := by
  have st0 := startP hT hG
  refine st0.law prims1_sim mixed rfl (xs := #[.int .i64 status, .int .i64 m, .bool last]) (VRL.cons (VR.scalar rfl) (VRL.cons (VR.scalar rfl) (VRL.cons (VR.scalar rfl) (VRL.nil _)))) ?_
  refine locals_walk prims1_ok start_pg ?_
  intro S'; rfl
end Go.Proofs.YtdmbgbennlnpcaaDoor.Q
