/- The chunk reader on the runner: its functions, the law that feeds it, the plain part; for the inputs that each theorem names. -/
import Derived.Test.YtdfgdpjlbcnkfaaDoorCkP
import Derived.Test.YtdfgdpjlbcnkfaaDoorRows
namespace Go.Proofs.YtdfgdpjlbcnkfaaDoor.Q
open Go Go.Proofs.YtdfgdpjlbcnkfaaDoorAbs Go.Proofs Go.RowKit
set_option linter.unusedVariables false
set_option linter.unusedSimpArgs false
set_option maxRecDepth 1000000
theorem nglob : Tryd.prog.globals.size = 7 := by kernel_rfl
/-- math/bits' table. -/
def tab64 : List Value := [0, 1, 56, 2, 57, 49, 28, 3, 61, 58, 42, 50, 38, 29, 17, 4, 62, 47, 59, 36, 45, 43, 51, 22, 53, 39, 33, 30, 24, 18, 12, 5, 63, 55, 48, 27, 60, 41, 37, 16, 46, 35, 44, 21, 52, 32, 23, 11, 54, 26, 40, 15, 34, 20, 31, 10, 25, 14, 19, 9, 13, 8, 7, 6].map (Value.int .u8)
def gl64 : Nat → Option (List Value) := fun | 6 => some tab64 | _ => none
def isTrue (r : Option (Value × St)) : Bool := match r with | some (.bool true, _) => true | _ => false
theorem works_run : isTrue (acall Tryd.prog prims0 60 14 #[] (St.start 7 gl64)) = true := by kernel_rfl
end Go.Proofs.YtdfgdpjlbcnkfaaDoor.Q
