/- What Go functions that a statement reaches come to, printed by a program of this session over the kit's printer; for all inputs at which the printed Lean function answers. -/
import Derived.Test.YthfphoojdhgjoaaProg
import Derived.Below
import Derived.Deep.Draws
import Derived.Deep.AppendLies
import Derived.Maps.AppendAt
import Derived.OwnWalk
import Derived.Laws.BytesArg
import Derived.Laws.MakeOwn
import Derived.Laws.OwnMore
import Derived.Deep.OwnRows
import Derived.Tactics
import Derived.Lib.ConvBytes
import Derived.Laws.Slices
import Derived.WalkKit
import Derived.KernelRfl
import Derived.RowKit3
import Derived.Deep.LoopGhost
import Derived.Deep.QuietTactic
import Derived.BigQuiet
import Derived.WideLaws
import Derived.Deep.DeepCutAuto
import Derived.Deep.CutBlock
import Derived.Deep.RegionHeld3
import Derived.Laws.Rows
import Derived.Lib.AppendStr
import Derived.ArgAppend
import Derived.Laws.IdiomCopy
import Derived.OrdersHeld
import Derived.Laws.BitsLemmas
import Derived.RowKit
import Derived.Test.YthfphoojdhgjoaaWWords
import Derived.Test.YthfphoojdhgjoaaWLast
import Derived.Test.YthfphoojdhgjoaaWTab
import Derived.Test.YthfphoojdhgjoaaWFour
import Derived.Test.YthfphoojdhgjoaaWQPut
import Derived.Test.YthfphoojdhgjoaaWApart
import Derived.Test.YthfphoojdhgjoaaWArr
import Derived.Test.YthfphoojdhgjoaaWZeros
import Derived.Test.YthfphoojdhgjoaaWFoot
import Derived.Test.YthfphoojdhgjoaaWKept
import Derived.Test.YthfphoojdhgjoaaWShare
import Derived.Test.YthfphoojdhgjoaaWN
import Derived.Test.YthfphoojdhgjoaaWFootNe
import Derived.Test.YthfphoojdhgjoaaWAt
import Derived.Test.YthfphoojdhgjoaaWEqStruct
import Derived.Test.YthfphoojdhgjoaaWRepsOne
import Derived.Test.YthfphoojdhgjoaaWInv
import Derived.Test.YthfphoojdhgjoaaWInvWords
import Derived.Test.YthfphoojdhgjoaaWGuard
import Derived.Test.YthfphoojdhgjoaaWNEv
import Derived.Test.YthfphoojdhgjoaaWMore
namespace Go.Proofs.Ythfphoojdhgjoaa.Q
open Go.RowKit Go.Proofs.YthfphoojdhgjoaaW.PrintWords Go.Proofs.YthfphoojdhgjoaaW.PrintLast Go.Proofs.YthfphoojdhgjoaaW.PrintMore
attribute [local go_sem] max2_int min2_int max_two min_two max_three min_three max_four min_four
set_option linter.unusedVariables false
set_option linter.unusedSimpArgs false

def errW : Option Int → Value
  | none => .nilIface
  | some c => .iface 37 (.int .i64 c)
theorem errW_none : errW none = .nilIface := rfl
theorem errW_some (c : Int) : errW (some c) = .iface 37 (.int .i64 c) := rfl

-- the values' own types

theorem isEmpty_bne (l : List UInt8) : l.isEmpty = !(l != []) := by cases l <;> rfl
theorem isEmpty_beq (l : List UInt8) : l.isEmpty = (l == []) := by cases l <;> rfl
end Go.Proofs.Ythfphoojdhgjoaa.Q
