/- The method of a head's reader that reads a byte behind the first line. By hand. -/
import Derived.Test.YtmmlacbcolfngaaDoorHRdReq
import Derived.Test.YtmmlacbcolfngaaDoorLStrs
import Derived.Deep.RegionHeld3
import Derived.Deep.RegionLaw
import Derived.Deep.DrawnRows
import Derived.Test.YtmmlacbcolfngaaDoorQChars
import Derived.Test.YtmmlacbcolfngaaDoorQChars
namespace Go.Proofs.YtmmlacbcolfngaaDoor.Q
open Go.RowKit Go.Proofs.YtmmlacbcolfngaaDoorW.PrintWords Go.Proofs.YtmmlacbcolfngaaDoorW.PrintLast Go.Proofs.YtmmlacbcolfngaaDoorW.PrintMore
attribute [local go_sem] max2_int min2_int max_two min_two max_three min_three max_four min_four
set_option linter.unusedVariables false
set_option linter.unusedSimpArgs false
attribute [local go_sem ↓] Go.wp_at_zero Go.wp_at_succ
set_option maxRecDepth 8000

def trimOf (word : List Int) : ByteArray := ⟨(trm (strOfNums word).data.toList).toArray⟩

def RdSt.fldLine (s : RdSt) (c : Int) : RdSt × Bool :=
  if s.at_ = 7 then
    (if c = 13 ∧ s.word.length = 0 then ({s with at_ := 10}, true) else if c = 58 ∧ 0 < s.word.length then ({s.taken 8 with name := strOfNums s.word}, true) else (s.push c, isTok c))
  else if s.at_ = 8 then (if c = 13 then ({s with at_ := 9}, true) else (s.push c, isVal c))
  else if s.at_ = 9 then ({s.taken 7 with field := s.field ++ [⟨s.name, trimOf s.word⟩]}, c == 10)
  else ({s with at_ := 11}, c == 10)

theorem fieldLine7 (base : Nat) (w : World) (g : Nat) (s : RdSt) (u0 u1 : Value) (c : Int) (hc0 : 0 ≤ c) (hc1 : c ≤ 255) (hl : s.word.length ≤ 1000000) (hfl : s.field.length ≤ 1000000) (h : Rd base w g s u0 u1) (c1 : s.at_ = 7) :
    Calls Tryd.prog 81 #[.pointer (some ⟨g, 0, none⟩), .int .u8 c] w fun e w' => ∃ v0 v1, e = .returned (.bool (s.fldLine c).2) ∧ St base w g u0 u1 w' (s.fldLine c).1 v0 v1 := by
  obtain ⟨A, cp, rfl, hcl, hc⟩ := Kd.R_reads h.word
  obtain ⟨A', cp', rfl, hcl', _⟩ := Kd.R_reads h.field
  have e2 : w.cell? ⟨g, 2, none⟩ = some (.int .i64 s.at_) := (blk_cell h.blk 2).trans rfl
  have e3 : w.cell? ⟨g, 3, none⟩ = some (.slice A s.word.length cp) := (blk_cell h.blk 3).trans rfl
  have e14 : w.cell? ⟨g, 14, none⟩ = some (.string s.name) := (blk_cell h.blk 14).trans rfl
  have e15 : w.cell? ⟨g, 15, none⟩ = some (.slice A' s.field.length cp') := (blk_cell h.blk 15).trans rfl
  have f2 := blk_frozen h.blk 2
  have f3 := blk_frozen h.blk 3
  have f14 := blk_frozen h.blk 14
  have f15 := blk_frozen h.blk 15
  have X := Aside0.mk h.st
  clear h hc
  unfold RdSt.fldLine
  go_enter Tryd.func81, Tryd.ntmps81
  rw [if_pos c1]
  have d1 : (s.at_ == 7) = true := by simpa using c1
  by_cases c2 : c = 13
  · subst c2
    by_cases c3 : s.word.length = 0
    · rw [if_pos ⟨rfl, c3⟩]
      have d3 : ((s.word.length : Int) == 0) = true := by rw [c3]; rfl
      have C3 := Aside0.mk c3
      clear c3
      go_wp2
      go_ret
      exact ⟨rfl, _, _, X.out.put 2 _ (s' := {s with at_ := 10}) rfl rfl rfl⟩
    · rw [if_neg (fun x => c3 x.2), if_neg (fun x => absurd x.1 (by decide))]
      have d3 : ((s.word.length : Int) == 0) = false := by
        refine beq_eq_false_iff_ne.mpr (fun x => c3 (by omega))
      go_wp2_with (first
        | ((with_reducible refine gate_builtin (b := .append) (xs := #[.tmp 45, .tmp 47]) rfl ?_); at_builtin
           refine Kd.R_append (Kd.int .u8) (w0 := w) base rfl (.tmp 45) (.tmp 47) 27 5 (.int .u8 0) 1 rfl Tryd.underlying27 info5 rfl (by decide) (by omega) (.slice A s.word.length cp) s.word 13 [.int .u8 13] (fun _ => True) (fun _ => False) rfl rfl ?aP (fun _ hk => hk.elim) (fun _ _ => trivial) ?aO ?aB ?aS ?aL ?_
           case aP => exact rfl
           case aO => exact X.out.rd.word
           case aB => exact Below.refl _ _
           case aS => exact X.out.rd.size
           case aL => omega
           intro x1 w1 ho hb hg hat
           obtain ⟨A1, cp1, ex1, hcp1, _⟩ := Kd.R_reads ho
           rw [List.length_append, List.length_singleton] at ex1 hcp1
           subst ex1
           have Y1 := Aside0.mk (X.out.grow ho hb hg hat)
           have f31 := blk_frozen (blk_grown X.out.rd.blk hg (Kd.R_ne X.out.rd.word X.out.rd.blk (by decide))) 3
           have e31 : w1.cell? ⟨g, 3, none⟩ = some (.slice A s.word.length cp) := (blk_cell (blk_grown X.out.rd.blk hg (Kd.R_ne X.out.rd.word X.out.rd.blk (by decide))) 3).trans rfl
           have f21 := blk_frozen (blk_grown X.out.rd.blk hg (Kd.R_ne X.out.rd.word X.out.rd.blk (by decide))) 2
           have e21 : w1.cell? ⟨g, 2, none⟩ = some (.int .i64 s.at_) := (blk_cell (blk_grown X.out.rd.blk hg (Kd.R_ne X.out.rd.word X.out.rd.blk (by decide))) 2).trans rfl
           clear ho hb hg hat
           )
        | ((with_reducible refine gate_callee (f := 96) rfl ?_)
           refine goesL_ (some 52) rfl rfl Tryd.func96 (by kernel_rfl) rfl #[.int .u8 13] rfl (by (try simp only [List.map_toArray, List.map_cons, List.map_nil]); first | done | rfl) ?_
           (with_reducible refine (chars_Token.calls 13 _ _ (tok_f 13 (by decide) (by decide))).mono ?_)
           rintro e w2 ⟨rfl, hd⟩
           have Z := Aside0.mk (Y1.out.on hd.below)
           clear hd
           refine ⟨_, rfl, ?_⟩))
      go_ret
      first | exact ⟨rfl, _, _, Z.out⟩ | exact ⟨_, _, rfl, Z.out⟩
  · have d2 : (c == 13) = false := by simpa using c2
    rw [if_neg (fun x => c2 x.1)]
    by_cases c4 : c = 58
    · subst c4
      by_cases c3 : 0 < s.word.length
      · rw [if_pos ⟨rfl, c3⟩]
        have d3 : decide ((s.word.length : Int) > 0) = true := decide_eq_true (by omega)
        go_wp2_with (first
          | ((with_reducible refine gate_callee (f := 95) rfl ?_)
             refine goesL_ (some 38) rfl rfl Tryd.func95 (by kernel_rfl) rfl #[.pointer (some ⟨g, 0, none⟩), .int .i64 8] rfl (by (try simp only [List.map_toArray, List.map_cons, List.map_nil]); first | done | rfl) ?_
             (with_reducible refine (take_calls base _ g s (.slice A s.word.length cp) (.slice A' s.field.length cp') 8 X.out.rd).mono ?_)
             rintro e w3 ⟨x3, rfl, hd⟩
             have Z := Aside0.mk (X.out.trans hd)
             have g14 := blk_frozen Z.out.rd.blk 14
             have k14 : w3.cell? ⟨g, 14, none⟩ = some (.string s.name) := (blk_cell Z.out.rd.blk 14).trans rfl
             clear hd
             refine ⟨_, rfl, ?_⟩))
        go_ret
        exact ⟨rfl, _, _, Z.out.put 14 _ (s' := {s.taken 8 with name := strOfNums s.word}) rfl rfl rfl⟩
      · rw [if_neg (fun x => c3 x.2)]
        have d3 : decide ((s.word.length : Int) > 0) = false := decide_eq_false (by omega)
        go_wp2_with (first
          | ((with_reducible refine gate_builtin (b := .append) (xs := #[.tmp 45, .tmp 47]) rfl ?_); at_builtin
             refine Kd.R_append (Kd.int .u8) (w0 := w) base rfl (.tmp 45) (.tmp 47) 27 5 (.int .u8 0) 1 rfl Tryd.underlying27 info5 rfl (by decide) (by omega) (.slice A s.word.length cp) s.word 58 [.int .u8 58] (fun _ => True) (fun _ => False) rfl rfl ?aP (fun _ hk => hk.elim) (fun _ _ => trivial) ?aO ?aB ?aS ?aL ?_
             case aP => exact rfl
             case aO => exact X.out.rd.word
             case aB => exact Below.refl _ _
             case aS => exact X.out.rd.size
             case aL => omega
             intro x1 w1 ho hb hg hat
             obtain ⟨A1, cp1, ex1, hcp1, _⟩ := Kd.R_reads ho
             rw [List.length_append, List.length_singleton] at ex1 hcp1
             subst ex1
             have Y1 := Aside0.mk (X.out.grow ho hb hg hat)
             have f31 := blk_frozen (blk_grown X.out.rd.blk hg (Kd.R_ne X.out.rd.word X.out.rd.blk (by decide))) 3
             have e31 : w1.cell? ⟨g, 3, none⟩ = some (.slice A s.word.length cp) := (blk_cell (blk_grown X.out.rd.blk hg (Kd.R_ne X.out.rd.word X.out.rd.blk (by decide))) 3).trans rfl
             have f21 := blk_frozen (blk_grown X.out.rd.blk hg (Kd.R_ne X.out.rd.word X.out.rd.blk (by decide))) 2
             have e21 : w1.cell? ⟨g, 2, none⟩ = some (.int .i64 s.at_) := (blk_cell (blk_grown X.out.rd.blk hg (Kd.R_ne X.out.rd.word X.out.rd.blk (by decide))) 2).trans rfl
             clear ho hb hg hat
             )
          | ((with_reducible refine gate_callee (f := 96) rfl ?_)
             refine goesL_ (some 52) rfl rfl Tryd.func96 (by kernel_rfl) rfl #[.int .u8 58] rfl (by (try simp only [List.map_toArray, List.map_cons, List.map_nil]); first | done | rfl) ?_
             (with_reducible refine (chars_Token.calls 58 _ _ (tok_f 58 (by decide) (by decide))).mono ?_)
             rintro e w2 ⟨rfl, hd⟩
             have Z := Aside0.mk (Y1.out.on hd.below)
             clear hd
             refine ⟨_, rfl, ?_⟩))
        go_ret
        first | exact ⟨rfl, _, _, Z.out⟩ | exact ⟨_, _, rfl, Z.out⟩
    · have d4 : (c == 58) = false := by simpa using c4
      rw [if_neg (fun x => c4 x.1)]
      go_wp2_with (first
        | ((with_reducible refine gate_builtin (b := .append) (xs := #[.tmp 45, .tmp 47]) rfl ?_); at_builtin
           refine Kd.R_append (Kd.int .u8) (w0 := w) base rfl (.tmp 45) (.tmp 47) 27 5 (.int .u8 0) 1 rfl Tryd.underlying27 info5 rfl (by decide) (by omega) (.slice A s.word.length cp) s.word c [.int .u8 c] (fun _ => True) (fun _ => False) rfl rfl ?aP (fun _ hk => hk.elim) (fun _ _ => trivial) ?aO ?aB ?aS ?aL ?_
           case aP => exact rfl
           case aO => exact X.out.rd.word
           case aB => exact Below.refl _ _
           case aS => exact X.out.rd.size
           case aL => omega
           intro x1 w1 ho hb hg hat
           obtain ⟨A1, cp1, ex1, hcp1, _⟩ := Kd.R_reads ho
           rw [List.length_append, List.length_singleton] at ex1 hcp1
           subst ex1
           have Y1 := Aside0.mk (X.out.grow ho hb hg hat)
           have f31 := blk_frozen (blk_grown X.out.rd.blk hg (Kd.R_ne X.out.rd.word X.out.rd.blk (by decide))) 3
           have e31 : w1.cell? ⟨g, 3, none⟩ = some (.slice A s.word.length cp) := (blk_cell (blk_grown X.out.rd.blk hg (Kd.R_ne X.out.rd.word X.out.rd.blk (by decide))) 3).trans rfl
           have f21 := blk_frozen (blk_grown X.out.rd.blk hg (Kd.R_ne X.out.rd.word X.out.rd.blk (by decide))) 2
           have e21 : w1.cell? ⟨g, 2, none⟩ = some (.int .i64 s.at_) := (blk_cell (blk_grown X.out.rd.blk hg (Kd.R_ne X.out.rd.word X.out.rd.blk (by decide))) 2).trans rfl
           clear ho hb hg hat
           )
        | ((with_reducible refine gate_callee (f := 96) rfl ?_)
           refine goesL_ (some 52) rfl rfl Tryd.func96 (by kernel_rfl) rfl #[.int .u8 c] rfl (by (try simp only [List.map_toArray, List.map_cons, List.map_nil]); first | done | rfl) ?_
           (with_reducible refine (chars_Token.calls c _ _ (tok_f c hc0 hc1)).mono ?_)
           rintro e w2 ⟨rfl, hd⟩
           have Z := Aside0.mk (Y1.out.on hd.below)
           clear hd
           refine ⟨_, rfl, ?_⟩))
      go_ret
      first | exact ⟨rfl, _, _, Z.out⟩ | exact ⟨_, _, rfl, Z.out⟩

theorem fieldLine8 (base : Nat) (w : World) (g : Nat) (s : RdSt) (u0 u1 : Value) (c : Int) (hc0 : 0 ≤ c) (hc1 : c ≤ 255) (hl : s.word.length ≤ 1000000) (hfl : s.field.length ≤ 1000000) (h : Rd base w g s u0 u1) (c1 : ¬s.at_ = 7) (c5 : s.at_ = 8) :
    Calls Tryd.prog 81 #[.pointer (some ⟨g, 0, none⟩), .int .u8 c] w fun e w' => ∃ v0 v1, e = .returned (.bool (s.fldLine c).2) ∧ St base w g u0 u1 w' (s.fldLine c).1 v0 v1 := by
  obtain ⟨A, cp, rfl, hcl, hc⟩ := Kd.R_reads h.word
  obtain ⟨A', cp', rfl, hcl', _⟩ := Kd.R_reads h.field
  have e2 : w.cell? ⟨g, 2, none⟩ = some (.int .i64 s.at_) := (blk_cell h.blk 2).trans rfl
  have e3 : w.cell? ⟨g, 3, none⟩ = some (.slice A s.word.length cp) := (blk_cell h.blk 3).trans rfl
  have e14 : w.cell? ⟨g, 14, none⟩ = some (.string s.name) := (blk_cell h.blk 14).trans rfl
  have e15 : w.cell? ⟨g, 15, none⟩ = some (.slice A' s.field.length cp') := (blk_cell h.blk 15).trans rfl
  have f2 := blk_frozen h.blk 2
  have f3 := blk_frozen h.blk 3
  have f14 := blk_frozen h.blk 14
  have f15 := blk_frozen h.blk 15
  have X := Aside0.mk h.st
  clear h hc
  unfold RdSt.fldLine
  go_enter Tryd.func81, Tryd.ntmps81
  rw [if_neg c1]
  have d1 : (s.at_ == 7) = false := by simpa using c1
  rw [if_pos c5]
  have d5 : (s.at_ == 8) = true := by simpa using c5
  by_cases c2 : c = 13
  · subst c2
    rw [if_pos rfl]
    go_wp2
    go_ret
    exact ⟨rfl, _, _, X.out.put 2 _ (s' := {s with at_ := 9}) rfl rfl rfl⟩
  · rw [if_neg c2]
    have d2 : (c == 13) = false := by simpa using c2
    go_wp2_with (first
      | ((with_reducible refine gate_builtin (b := .append) (xs := #[.tmp 64, .tmp 66]) rfl ?_); at_builtin
         refine Kd.R_append (Kd.int .u8) (w0 := w) base rfl (.tmp 64) (.tmp 66) 27 5 (.int .u8 0) 1 rfl Tryd.underlying27 info5 rfl (by decide) (by omega) (.slice A s.word.length cp) s.word c [.int .u8 c] (fun _ => True) (fun _ => False) rfl rfl ?aP (fun _ hk => hk.elim) (fun _ _ => trivial) ?aO ?aB ?aS ?aL ?_
         case aP => exact rfl
         case aO => exact X.out.rd.word
         case aB => exact Below.refl _ _
         case aS => exact X.out.rd.size
         case aL => omega
         intro x1 w1 ho hb hg hat
         obtain ⟨A1, cp1, ex1, hcp1, _⟩ := Kd.R_reads ho
         rw [List.length_append, List.length_singleton] at ex1 hcp1
         subst ex1
         have Y1 := Aside0.mk (X.out.grow ho hb hg hat)
         have f31 := blk_frozen (blk_grown X.out.rd.blk hg (Kd.R_ne X.out.rd.word X.out.rd.blk (by decide))) 3
         have e31 : w1.cell? ⟨g, 3, none⟩ = some (.slice A s.word.length cp) := (blk_cell (blk_grown X.out.rd.blk hg (Kd.R_ne X.out.rd.word X.out.rd.blk (by decide))) 3).trans rfl
         have f21 := blk_frozen (blk_grown X.out.rd.blk hg (Kd.R_ne X.out.rd.word X.out.rd.blk (by decide))) 2
         have e21 : w1.cell? ⟨g, 2, none⟩ = some (.int .i64 s.at_) := (blk_cell (blk_grown X.out.rd.blk hg (Kd.R_ne X.out.rd.word X.out.rd.blk (by decide))) 2).trans rfl
         clear ho hb hg hat
         )
      | ((with_reducible refine gate_callee (f := 97) rfl ?_)
         refine goesL_ (some 71) rfl rfl Tryd.func97 (by kernel_rfl) rfl #[.int .u8 c] rfl (by (try simp only [List.map_toArray, List.map_cons, List.map_nil]); first | done | rfl) ?_
         (with_reducible refine (chars_Value.calls c _ _ (val_f c)).mono ?_)
         rintro e w2 ⟨rfl, hd⟩
         have Z := Aside0.mk (Y1.out.on hd.below)
         clear hd
         refine ⟨_, rfl, ?_⟩))
    go_ret
    first | exact ⟨rfl, _, _, Z.out⟩ | exact ⟨_, _, rfl, Z.out⟩

set_option maxHeartbeats 12800000 in
theorem fieldLine9 (base : Nat) (w : World) (g : Nat) (s : RdSt) (u0 u1 : Value) (c : Int) (hc0 : 0 ≤ c) (hc1 : c ≤ 255) (hl : s.word.length ≤ 1000000) (hfl : s.field.length ≤ 1000000) (h : Rd base w g s u0 u1) (c1 : ¬s.at_ = 7) (c5 : ¬s.at_ = 8) (c6 : s.at_ = 9) :
    Calls Tryd.prog 81 #[.pointer (some ⟨g, 0, none⟩), .int .u8 c] w fun e w' => ∃ v0 v1, e = .returned (.bool (s.fldLine c).2) ∧ St base w g u0 u1 w' (s.fldLine c).1 v0 v1 := by
  obtain ⟨A, cp, rfl, hcl, hc⟩ := Kd.R_reads h.word
  obtain ⟨A', cp', rfl, hcl', _⟩ := Kd.R_reads h.field
  have e2 : w.cell? ⟨g, 2, none⟩ = some (.int .i64 s.at_) := (blk_cell h.blk 2).trans rfl
  have e3 : w.cell? ⟨g, 3, none⟩ = some (.slice A s.word.length cp) := (blk_cell h.blk 3).trans rfl
  have e14 : w.cell? ⟨g, 14, none⟩ = some (.string s.name) := (blk_cell h.blk 14).trans rfl
  have e15 : w.cell? ⟨g, 15, none⟩ = some (.slice A' s.field.length cp') := (blk_cell h.blk 15).trans rfl
  have f2 := blk_frozen h.blk 2
  have f3 := blk_frozen h.blk 3
  have f14 := blk_frozen h.blk 14
  have f15 := blk_frozen h.blk 15
  have X := Aside0.mk h.st
  clear h hc
  unfold RdSt.fldLine
  go_enter Tryd.func81, Tryd.ntmps81
  rw [if_neg c1, if_neg c5]
  have d1 : (s.at_ == 7) = false := by simpa using c1
  have d5 : (s.at_ == 8) = false := by simpa using c5
  rw [if_pos c6]
  have d6 : (s.at_ == 9) = true := by simpa using c6
  have hs8 : (strOfNums s.word).size ≤ 9223372036854775807 := by
    rw [strOfNums_size]
    omega
  have HT := Aside0.mk (trim_f (strOfNums s.word) hs8)
  clear hs8
  go_wp2_with fail
  go_region_law
    (first
      | (refine goes_ Tryd.func95 (by kernel_rfl) rfl #[.pointer (some ⟨g, 0, none⟩), .int .i64 7] (by rfl) rfl rfl (by (try simp only [List.map_toArray, List.map_cons, List.map_nil]); first | done | rfl) ?_
         (with_reducible refine (take_calls base _ g s (.slice A s.word.length cp) (.slice A' s.field.length cp') 7 X.out.drew.rd).mono ?_)
         rintro e w3 ⟨x3, rfl, hd⟩
         have X3 := Aside0.mk (X.out.drew.trans hd)
         have k15 : w3.cell? ⟨g, 15, none⟩ = some (.slice A' s.field.length cp') := (blk_cell X3.out.rd.blk 15).trans rfl
         have l15 := blk_frozen X3.out.rd.blk 15
         have k14 : w3.cell? ⟨g, 14, none⟩ = some (.string s.name) := (blk_cell X3.out.rd.blk 14).trans rfl
         clear hd
         refine ⟨_, rfl, ?_⟩)
      | (refine goes_ Tryd.func85 (by kernel_rfl) rfl #[.string (strOfNums s.word)] (by rfl) rfl rfl (by (try simp only [List.map_toArray, List.map_cons, List.map_nil]); first | done | rfl) ?_
         (with_reducible refine (chars_Trim.calls (strOfNums s.word) _ _ HT.out).mono ?_)
         rintro e w2 ⟨rfl, hd⟩
         have X4 := Aside0.mk (X3.out.on hd)
         have m15 : w2.cell? ⟨g, 15, none⟩ = some (.slice A' s.field.length cp') := (blk_cell X4.out.rd.blk 15).trans rfl
         have n15 := blk_frozen X4.out.rd.blk 15
         have m14 : w2.cell? ⟨g, 14, none⟩ = some (.string s.name) := (blk_cell X4.out.rd.blk 14).trans rfl
         have nn2 := World.new_ne w2 _ m15
         have k15a : ∀ o, (w2.alloc o).cell? ⟨g, 15, none⟩ = some (.slice A' s.field.length cp') := fun o => (World.cell?_alloc_lt w2 o _ (World.block_lt_of_cell? w2 _ m15)).trans m15
         clear hd
         refine ⟨_, rfl, ?_⟩)
      | (refine Kd.R_append_step k67 (w0 := w2) base (by rfl) (.tmp 78) (.tmp 87) 22 67 (.agg #[(.string ⟨#[]⟩), (.string ⟨#[]⟩)]) 32 rfl Tryd.underlying22 info67 rfl (by decide) (by omega) (.slice A' s.field.length cp') s.field ⟨s.name, trimOf s.word⟩ [.string s.name, .string (trimOf s.word)] (fun _ => True) (fun _ => False) rfl rfl ?aP (fun _ hk => hk.elim) (fun _ _ => trivial) ?aO ?aB ?aS ?aL ?_
         case aP => exact k67_mkM _ _ _ ⟨s.name, trimOf s.word⟩
         case aO => exact X4.out.rd.field
         case aB => exact Below.refl _ _
         case aS => exact X4.out.rd.size
         case aL => omega
         intro x1 w1 ho hb hg hat
         obtain ⟨A1, cp1, ex1, hcp1, _⟩ := Kd.R_reads ho
         rw [List.length_append, List.length_singleton] at ex1 hcp1
         subst ex1
         have Y1 := Aside0.mk (X4.out.growf ho hb hg hat)
         have f31 := blk_frozen (blk_grown X4.out.rd.blk hg (Kd.R_ne X4.out.rd.field X4.out.rd.blk (by decide))) 15
         have e31 : w1.cell? ⟨g, 15, none⟩ = some (.slice A' s.field.length cp') := (blk_cell (blk_grown X4.out.rd.blk hg (Kd.R_ne X4.out.rd.field X4.out.rd.blk (by decide))) 15).trans rfl
         have e32 : w1.cell? ⟨g, 14, none⟩ = some (.string s.name) := (blk_cell (blk_grown X4.out.rd.blk hg (Kd.R_ne X4.out.rd.field X4.out.rd.blk (by decide))) 14).trans rfl
         clear ho hb hg hat))
  all_goals go_wp2
  all_goals go_ret
  all_goals first | exact ⟨rfl, _, _, Y1.out⟩ | exact ⟨_, _, rfl, Y1.out⟩

theorem fieldLine10 (base : Nat) (w : World) (g : Nat) (s : RdSt) (u0 u1 : Value) (c : Int) (hc0 : 0 ≤ c) (hc1 : c ≤ 255) (hl : s.word.length ≤ 1000000) (hfl : s.field.length ≤ 1000000) (h : Rd base w g s u0 u1) (c1 : ¬s.at_ = 7) (c5 : ¬s.at_ = 8) (c6 : ¬s.at_ = 9) :
    Calls Tryd.prog 81 #[.pointer (some ⟨g, 0, none⟩), .int .u8 c] w fun e w' => ∃ v0 v1, e = .returned (.bool (s.fldLine c).2) ∧ St base w g u0 u1 w' (s.fldLine c).1 v0 v1 := by
  obtain ⟨A, cp, rfl, hcl, hc⟩ := Kd.R_reads h.word
  obtain ⟨A', cp', rfl, hcl', _⟩ := Kd.R_reads h.field
  have e2 : w.cell? ⟨g, 2, none⟩ = some (.int .i64 s.at_) := (blk_cell h.blk 2).trans rfl
  have e3 : w.cell? ⟨g, 3, none⟩ = some (.slice A s.word.length cp) := (blk_cell h.blk 3).trans rfl
  have e14 : w.cell? ⟨g, 14, none⟩ = some (.string s.name) := (blk_cell h.blk 14).trans rfl
  have e15 : w.cell? ⟨g, 15, none⟩ = some (.slice A' s.field.length cp') := (blk_cell h.blk 15).trans rfl
  have f2 := blk_frozen h.blk 2
  have f3 := blk_frozen h.blk 3
  have f14 := blk_frozen h.blk 14
  have f15 := blk_frozen h.blk 15
  have X := Aside0.mk h.st
  clear h hc
  unfold RdSt.fldLine
  go_enter Tryd.func81, Tryd.ntmps81
  rw [if_neg c1, if_neg c5]
  have d1 : (s.at_ == 7) = false := by simpa using c1
  have d5 : (s.at_ == 8) = false := by simpa using c5
  rw [if_neg c6]
  have d6 : (s.at_ == 9) = false := by simpa using c6
  go_wp2
  go_ret
  first | exact ⟨rfl, _, _, X.out.put 2 _ (s' := {s with at_ := 11}) rfl rfl rfl⟩ | exact ⟨_, _, rfl, X.out.put 2 _ (s' := {s with at_ := 11}) rfl rfl rfl⟩

theorem fieldLine_calls (base : Nat) (w : World) (g : Nat) (s : RdSt) (u0 u1 : Value) (c : Int) (hc0 : 0 ≤ c) (hc1 : c ≤ 255) (hl : s.word.length ≤ 1000000) (hfl : s.field.length ≤ 1000000) (h : Rd base w g s u0 u1) :
    Calls Tryd.prog 81 #[.pointer (some ⟨g, 0, none⟩), .int .u8 c] w fun e w' => ∃ v0 v1, e = .returned (.bool (s.fldLine c).2) ∧ St base w g u0 u1 w' (s.fldLine c).1 v0 v1 := by
  by_cases c1 : s.at_ = 7
  · exact fieldLine7 base w g s u0 u1 c hc0 hc1 hl hfl h c1
  · by_cases c5 : s.at_ = 8
    · exact fieldLine8 base w g s u0 u1 c hc0 hc1 hl hfl h c1 c5
    · by_cases c6 : s.at_ = 9
      · exact fieldLine9 base w g s u0 u1 c hc0 hc1 hl hfl h c1 c5 c6
      · exact fieldLine10 base w g s u0 u1 c hc0 hc1 hl hfl h c1 c5 c6

end Go.Proofs.YtmmlacbcolfngaaDoor.Q
