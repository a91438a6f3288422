/- What Go functions that a statement reaches come to, printed by a program of this session over the kit's printer; for all inputs at which the printed Lean function answers. -/
import Derived.Test.YthfphoojdhgjoaaDoorProg
import Derived.Below
import Derived.Deep.Draws
import Derived.Deep.AppendLies
import Derived.Maps.AppendAt
import Derived.OwnWalk
import Derived.Laws.BytesArg
import Derived.Laws.MakeOwn
import Derived.Laws.OwnMore
import Derived.Deep.OwnRows
import Derived.Tactics
import Derived.Lib.ConvBytes
import Derived.Laws.Slices
import Derived.WalkKit
import Derived.KernelRfl
import Derived.RowKit3
import Derived.Deep.LoopGhost
import Derived.Deep.QuietTactic
import Derived.BigQuiet
import Derived.WideLaws
import Derived.Deep.DeepCutAuto
import Derived.Deep.CutBlock
import Derived.Deep.RegionHeld3
import Derived.Laws.Rows
import Derived.Lib.AppendStr
import Derived.ArgAppend
import Derived.Laws.IdiomCopy
import Derived.OrdersHeld
import Derived.Laws.BitsLemmas
import Derived.RowKit
import Derived.Test.YthfphoojdhgjoaaDoorWWords
import Derived.Test.YthfphoojdhgjoaaDoorWLast
import Derived.Test.YthfphoojdhgjoaaDoorWTab
import Derived.Test.YthfphoojdhgjoaaDoorWFour
import Derived.Test.YthfphoojdhgjoaaDoorWQPut
import Derived.Test.YthfphoojdhgjoaaDoorWApart
import Derived.Test.YthfphoojdhgjoaaDoorWArr
import Derived.Test.YthfphoojdhgjoaaDoorWZeros
import Derived.Test.YthfphoojdhgjoaaDoorWFoot
import Derived.Test.YthfphoojdhgjoaaDoorWKept
import Derived.Test.YthfphoojdhgjoaaDoorWShare
import Derived.Test.YthfphoojdhgjoaaDoorWN
import Derived.Test.YthfphoojdhgjoaaDoorWFootNe
import Derived.Test.YthfphoojdhgjoaaDoorWAt
import Derived.Test.YthfphoojdhgjoaaDoorWEqStruct
import Derived.Test.YthfphoojdhgjoaaDoorWRepsOne
import Derived.Test.YthfphoojdhgjoaaDoorWInv
import Derived.Test.YthfphoojdhgjoaaDoorWInvWords
import Derived.Test.YthfphoojdhgjoaaDoorWGuard
import Derived.Test.YthfphoojdhgjoaaDoorWNEv
import Derived.Test.YthfphoojdhgjoaaDoorWMore
namespace Go.Proofs.YthfphoojdhgjoaaDoor.Q
open Go.RowKit Go.Proofs.YthfphoojdhgjoaaDoorW.PrintWords Go.Proofs.YthfphoojdhgjoaaDoorW.PrintLast Go.Proofs.YthfphoojdhgjoaaDoorW.PrintMore
attribute [local go_sem] max2_int min2_int max_two min_two max_three min_three max_four min_four
set_option linter.unusedVariables false
set_option linter.unusedSimpArgs false

def errW : Option Int → Value
  | none => .nilIface
  | some c => .iface 44 (.int .i64 c)
theorem errW_none : errW none = .nilIface := rfl
theorem errW_some (c : Int) : errW (some c) = .iface 44 (.int .i64 c) := rfl

theorem info5 : (Tryd.prog.info? 5).map (fun i => (i.zero, i.size, i.bytes)) = some (some (.int .u8 0), 1, 1) := by kernel_rfl
theorem info9 : (Tryd.prog.info? 9).map (fun i => (i.zero, i.size, i.bytes)) = some (some (.string ⟨#[]⟩), 1, 16) := by kernel_rfl
-- the values' own types
def rd_L2 (xs : List (List ByteArray)) (i : Int) : (List ByteArray) := xs.getD i.toNat ([] : List ByteArray)
theorem at_L2 {w : World} {A : Option Addr} {n : Nat} {xs : List (List ByteArray)} (h : Kd.C (Kd.slice 9 Kd.string) w A n xs) (i : Int) (h0 : 0 ≤ i) (h1 : i < n) : ∃ ad A0 c0, A = some ad ∧ w.cell? (ad.add i.toNat) = some (.slice A0 (rd_L2 xs i).length c0) ∧ (rd_L2 xs i).length ≤ c0 ∧ Kd.string.C w A0 (rd_L2 xs i).length (rd_L2 xs i) := by
  obtain ⟨ad, c, e, _, hK, hc0⟩ := Kd.C_get h ([] : List ByteArray) i h0 h1
  have hc : ∀ j u, c[j]? = some u → w.cell? (ad.add (i.toNat * 1 + j)) = some u := hc0
  obtain ⟨A0, c0, rfl, l0, g0⟩ := hK
  exact ⟨ad, A0, c0, e, by have hq := hc 0 _ rfl; rwa [Nat.mul_one, Nat.add_zero] at hq, l0, g0⟩

theorem isEmpty_bne (l : List UInt8) : l.isEmpty = !(l != []) := by cases l <;> rfl
theorem isEmpty_beq (l : List UInt8) : l.isEmpty = (l == []) := by cases l <;> rfl
/-- What the package-level variables that are read hold: errors.errorType is the handle of the type 'error'. -/
def GlobE (w : World) : Prop := w.cell? ⟨0, 0, none⟩ = some (.iface 78 (.agg #[.pointer (some ⟨4, 23, none⟩)]))
theorem GlobE.below {w w1 : World} (h : GlobE w) (hb : Below w.heap.size w w1) : GlobE w1 := pw_cell_below hb h
/-- .. bytealg's MaxLen is some number. -/
def GlobM (w : World) : Prop := ∃ m : Int, w.cell? ⟨3, 0, none⟩ = some (.int .i64 m)
theorem GlobM.below {w w1 : World} (h : GlobM w) (hb : Below w.heap.size w w1) : GlobM w1 := by
  obtain ⟨m, hm⟩ := h
  exact ⟨m, pw_cell_below hb hm⟩

end Go.Proofs.YthfphoojdhgjoaaDoor.Q
