/- The methods of a head's reader that end a part and that read a version's byte. By hand. -/
import Derived.Test.YtmmlacbcolfngaaDoorHRdBase
namespace Go.Proofs.YtmmlacbcolfngaaDoor.Q
open Go.RowKit Go.Proofs.YtmmlacbcolfngaaDoorW.PrintWords Go.Proofs.YtmmlacbcolfngaaDoorW.PrintLast Go.Proofs.YtmmlacbcolfngaaDoorW.PrintMore
attribute [local go_sem] max2_int min2_int max_two min_two max_three min_three max_four min_four
set_option linter.unusedVariables false
set_option linter.unusedSimpArgs false
set_option maxRecDepth 8000

def RdSt.taken (s : RdSt) (next : Int) : RdSt := {s with word := [], at_ := next}

theorem take_calls (base : Nat) (w : World) (g : Nat) (s : RdSt) (u0 u1 : Value) (next : Int) (h : Rd base w g s u0 u1) :
    Calls Tryd.prog 95 #[.pointer (some ⟨g, 0, none⟩), .int .i64 next] w fun e w' => ∃ v0, e = .returned (.string (strOfNums s.word)) ∧ St base w g u0 u1 w' (s.taken next) v0 u1 := by
  obtain ⟨A, c, rfl, hl, hc⟩ := Kd.R_reads h.word
  have e2 : w.cell? ⟨g, 2, none⟩ = some (.int .i64 s.at_) := (blk_cell h.blk 2).trans rfl
  have e3 : w.cell? ⟨g, 3, none⟩ = some (.slice A s.word.length c) := (blk_cell h.blk 3).trans rfl
  have f2 := blk_frozen h.blk 2
  have f3 := blk_frozen h.blk 3
  have hcv := Kd.C_string (P := Tryd.prog) (A := A) (c := c) (src := 27) (dst := 9) (e := 5) Tryd.underlying27 Tryd.underlying5 Tryd.underlying9 hc
  have X := Aside0.mk h.st
  clear h hc
  go_enter Tryd.func95, Tryd.ntmps95
  go_wp2
  go_ret
  exact ⟨_, rfl, (X.out.cut (Nat.zero_le _) rfl).put 2 _ rfl rfl rfl⟩

def isVersion (word : List Int) (c : Int) : Bool :=
  if (word.length : Int) < 7 then c == bt ⟨#[72, 84, 84, 80, 47, 49, 46]⟩ (word.length : Int) else if (word.length : Int) = 7 then c == 48 || c == 49 else false

theorem version_calls (base : Nat) (w : World) (g : Nat) (s : RdSt) (u0 u1 : Value) (c : Int) (h : Rd base w g s u0 u1) :
    Calls Tryd.prog 100 #[.pointer (some ⟨g, 0, none⟩), .int .u8 c] w fun e w' => e = .returned (.bool (isVersion s.word c)) ∧ Below w.heap.size w w' := by
  obtain ⟨A, cp, rfl, hl, hc⟩ := Kd.R_reads h.word
  have e3 : w.cell? ⟨g, 3, none⟩ = some (.slice A s.word.length cp) := (blk_cell h.blk 3).trans rfl
  have f3 := blk_frozen h.blk 3
  clear h hc
  unfold isVersion
  go_enter Tryd.func100, Tryd.ntmps100
  by_cases c1 : (s.word.length : Int) < 7
  · rw [if_pos c1]
    have c0 : 0 ≤ (s.word.length : Int) := by omega
    have d1 := decide_eq_true c1
    have d0 := decide_eq_true c0
    go_wp2
    go_ret
    refine ⟨?_, Below.refl _ _⟩
    simp only [bt, Int.toNat_natCast]
    rw [dif_pos (show s.word.length < (⟨#[72, 84, 84, 80, 47, 49, 46]⟩ : ByteArray).size from (by omega : s.word.length < 7))]
    rfl
  · rw [if_neg c1]
    have d1 := decide_eq_false c1
    by_cases c2 : (s.word.length : Int) = 7
    · rw [if_pos c2]
      have n7 : s.word.length = 7 := by omega
      rw [n7] at e3
      clear c1 c2 d1 n7 hl
      by_cases c3 : c = 48
      · subst c3
        go_wp2
        go_ret
        exact ⟨rfl, Below.refl _ _⟩
      · have d3 : (c == 48) = false := by simpa using c3
        rw [d3]
        go_wp2
        go_ret
        exact ⟨rfl, Below.refl _ _⟩
    · rw [if_neg c2]
      have d2 : ((s.word.length : Int) == 7) = false := by simpa using c2
      go_wp2
      go_ret
      exact ⟨rfl, Below.refl _ _⟩

end Go.Proofs.YtmmlacbcolfngaaDoor.Q
