/- The method of a head's reader that reads a byte of a response's first line. By hand. -/
import Derived.Test.YtmmlacbcolfngaaDoorHRdReq
import Derived.Test.YtmmlacbcolfngaaDoorLNumbers
import Derived.Test.YtmmlacbcolfngaaDoorQChars
import Derived.Test.YtmmlacbcolfngaaDoorQChars
import Derived.Test.YtmmlacbcolfngaaDoorQChars
namespace Go.Proofs.YtmmlacbcolfngaaDoor.Q
open Go.RowKit Go.Proofs.YtmmlacbcolfngaaDoorW.PrintWords Go.Proofs.YtmmlacbcolfngaaDoorW.PrintLast Go.Proofs.YtmmlacbcolfngaaDoorW.PrintMore
attribute [local go_sem] max2_int min2_int max_two min_two max_three min_three max_four min_four
set_option linter.unusedVariables false
set_option linter.unusedSimpArgs false
set_option maxRecDepth 8000

def digB (c : Int) : Bool := if c ≥ 48 then decide (c ≤ 57) else false
theorem digB_f (c : Int) : chars_Digit.f c = some (digB c) := by
  unfold chars_Digit.f digB
  split <;> rfl
theorem digB_f' (c : Int) (b : Bool) (h : digB c = b) : chars_Digit.f c = some b := by rw [digB_f, h]
def decOf (word : List Int) : Int := (numS 10 999 (strOfNums word).data.toList).1

def RdSt.statLine (s : RdSt) (c : Int) : RdSt × Bool :=
  if s.at_ = 3 then (if c = 32 ∧ s.word.length = 8 then ({s.taken 4 with pn := minorOf s.word}, true) else (s.push c, isVersion s.word c))
  else if s.at_ = 4 then (if s.word.length = 3 then ({s.taken 5 with ps := decOf s.word}, c == 32) else (s.push c, digB c && (decide (0 < s.word.length) || (decide (49 ≤ c) && decide (c ≤ 53)))))
  else if c = 13 then ({s.taken 6 with pr := strOfNums s.word}, true) else (s.push c, isVal c)

theorem push_cut (s : RdSt) (c : Int) : s = {(s.push c) with word := (s.push c).word.take s.word.length} := by
  cases s
  simp [RdSt.push]

theorem statusLine3 (base : Nat) (w : World) (g : Nat) (s : RdSt) (u0 u1 : Value) (c : Int) (hc0 : 0 ≤ c) (hc1 : c ≤ 255) (hl : s.word.length ≤ 1000000) (h : Rd base w g s u0 u1) (c1 : s.at_ = 3) :
    Calls Tryd.prog 83 #[.pointer (some ⟨g, 0, none⟩), .int .u8 c] w fun e w' => ∃ v0, e = .returned (.bool (s.statLine c).2) ∧ St base w g u0 u1 w' (s.statLine c).1 v0 u1 := by
  obtain ⟨A, cp, rfl, hcl, hc⟩ := Kd.R_reads h.word
  have e2 : w.cell? ⟨g, 2, none⟩ = some (.int .i64 s.at_) := (blk_cell h.blk 2).trans rfl
  have e3 : w.cell? ⟨g, 3, none⟩ = some (.slice A s.word.length cp) := (blk_cell h.blk 3).trans rfl
  have f2 := blk_frozen h.blk 2
  have f3 := blk_frozen h.blk 3
  have X := Aside0.mk h.st
  have hl0 : (0 : Int) ≤ (s.word.length : Int) := by omega
  have hl0d := decide_eq_true hl0
  clear h hc
  unfold RdSt.statLine
  go_enter Tryd.func83, Tryd.ntmps83
  rw [if_pos c1]
  have d1 : (s.at_ == 3) = true := by simpa using c1
  by_cases c2 : c = 32
  · subst c2
    by_cases c3 : s.word.length = 8
    · rw [if_pos ⟨rfl, c3⟩]
      have d3 : ((s.word.length : Int) == 8) = true := by rw [c3]; rfl
      have C3 := Aside0.mk c3
      clear c3
      go_wp2_with (first
        | ((with_reducible refine gate_builtin (b := .append) (xs := #[.tmp 16, .tmp 18]) rfl ?_); at_builtin
           refine Kd.R_append (Kd.int .u8) (w0 := w) base rfl (.tmp 16) (.tmp 18) 27 5 (.int .u8 0) 1 rfl Tryd.underlying27 info5 rfl (by decide) (by omega) (.slice A s.word.length cp) s.word 32 [.int .u8 32] (fun _ => True) (fun _ => False) rfl rfl ?aP (fun _ hk => hk.elim) (fun _ _ => trivial) ?aO ?aB ?aS ?aL ?_
           case aP => exact rfl
           case aO => exact X.out.rd.word
           case aB => exact Below.refl _ _
           case aS => exact X.out.rd.size
           case aL => omega
           intro x1 w1 ho hb hg hat
           obtain ⟨A1, cp1, ex1, hcp1, _⟩ := Kd.R_reads ho
           rw [List.length_append, List.length_singleton] at ex1 hcp1
           subst ex1
           have Y1 := Aside0.mk (X.out.grow ho hb hg hat)
           have f31 := blk_frozen (blk_grown X.out.rd.blk hg (Kd.R_ne X.out.rd.word X.out.rd.blk (by decide))) 3
           have e31 : w1.cell? ⟨g, 3, none⟩ = some (.slice A s.word.length cp) := (blk_cell (blk_grown X.out.rd.blk hg (Kd.R_ne X.out.rd.word X.out.rd.blk (by decide))) 3).trans rfl
           have f21 := blk_frozen (blk_grown X.out.rd.blk hg (Kd.R_ne X.out.rd.word X.out.rd.blk (by decide))) 2
           have e21 : w1.cell? ⟨g, 2, none⟩ = some (.int .i64 s.at_) := (blk_cell (blk_grown X.out.rd.blk hg (Kd.R_ne X.out.rd.word X.out.rd.blk (by decide))) 2).trans rfl
           clear ho hb hg hat
           )
        | ((with_reducible refine gate_callee (f := 95) rfl ?_)
           refine goesL_ (some 45) rfl rfl Tryd.func95 (by kernel_rfl) rfl #[.pointer (some ⟨g, 0, none⟩), .int .i64 4] rfl (by (try simp only [List.map_toArray, List.map_cons, List.map_nil]); first | done | rfl) ?_
           have XC := Aside0.mk (Y1.out.cut (s' := s) (m := s.word.length) (by simp) (push_cut s 32))
           (with_reducible refine (take_calls base _ g s (.slice A1 s.word.length cp1) u1 4 XC.out.rd).mono ?_)
           rintro e w3 ⟨x3, rfl, hd⟩
           have X3 := Aside0.mk (XC.out.trans hd)
           clear hd
           refine ⟨_, rfl, ?_⟩)
        | ((with_reducible refine gate_callee (f := 99) rfl ?_)
           refine goesL_ (some 46) rfl rfl Tryd.func99 (by kernel_rfl) rfl #[.string (strOfNums s.word)] rfl (by (try simp only [List.map_toArray, List.map_cons, List.map_nil]); first | done | rfl) ?_
           (with_reducible refine (head_minor.calls (strOfNums s.word) _ _ (minor_f s.word C3.out)).mono ?_)
           rintro e w2 ⟨rfl, hd⟩
           have Z := Aside0.mk (X3.out.on hd.below)
           have g12 := blk_frozen Z.out.rd.blk 12
           have k12 : w2.cell? ⟨g, 12, none⟩ = some (.int .i64 s.pn) := (blk_cell Z.out.rd.blk 12).trans rfl
           clear hd
           refine ⟨_, rfl, ?_⟩))
      go_ret
      exact ⟨rfl, _, Z.out.put 12 _ (s' := {s.taken 4 with pn := minorOf s.word}) rfl rfl rfl⟩
    · rw [if_neg (fun x => c3 x.2)]
      have d3 : ((s.word.length : Int) == 8) = false := by
        refine beq_eq_false_iff_ne.mpr (fun x => c3 (by omega))
      go_wp2_with (first
        | ((with_reducible refine gate_builtin (b := .append) (xs := #[.tmp 16, .tmp 18]) rfl ?_); at_builtin
           refine Kd.R_append (Kd.int .u8) (w0 := w) base rfl (.tmp 16) (.tmp 18) 27 5 (.int .u8 0) 1 rfl Tryd.underlying27 info5 rfl (by decide) (by omega) (.slice A s.word.length cp) s.word 32 [.int .u8 32] (fun _ => True) (fun _ => False) rfl rfl ?aP (fun _ hk => hk.elim) (fun _ _ => trivial) ?aO ?aB ?aS ?aL ?_
           case aP => exact rfl
           case aO => exact X.out.rd.word
           case aB => exact Below.refl _ _
           case aS => exact X.out.rd.size
           case aL => omega
           intro x1 w1 ho hb hg hat
           obtain ⟨A1, cp1, ex1, hcp1, _⟩ := Kd.R_reads ho
           rw [List.length_append, List.length_singleton] at ex1 hcp1
           subst ex1
           have Y1 := Aside0.mk (X.out.grow ho hb hg hat)
           have f31 := blk_frozen (blk_grown X.out.rd.blk hg (Kd.R_ne X.out.rd.word X.out.rd.blk (by decide))) 3
           have e31 : w1.cell? ⟨g, 3, none⟩ = some (.slice A s.word.length cp) := (blk_cell (blk_grown X.out.rd.blk hg (Kd.R_ne X.out.rd.word X.out.rd.blk (by decide))) 3).trans rfl
           have f21 := blk_frozen (blk_grown X.out.rd.blk hg (Kd.R_ne X.out.rd.word X.out.rd.blk (by decide))) 2
           have e21 : w1.cell? ⟨g, 2, none⟩ = some (.int .i64 s.at_) := (blk_cell (blk_grown X.out.rd.blk hg (Kd.R_ne X.out.rd.word X.out.rd.blk (by decide))) 2).trans rfl
           clear ho hb hg hat
           )
        | ((with_reducible refine gate_callee (f := 100) rfl ?_)
           refine goesL_ (some 52) rfl rfl Tryd.func100 (by kernel_rfl) rfl #[.pointer (some ⟨g, 0, none⟩), .int .u8 32] rfl (by (try simp only [List.map_toArray, List.map_cons, List.map_nil]); first | done | rfl) ?_
           have XC := Aside0.mk (Y1.out.cut (s' := s) (m := s.word.length) (by simp) (push_cut s 32))
           (with_reducible refine (version_calls base _ g s (.slice A1 s.word.length cp1) u1 32 XC.out.rd).mono ?_)
           rintro e w3 ⟨rfl, hd⟩
           have X3 := Aside0.mk (XC.out.on hd)
           have g3 := blk_frozen X3.out.rd.blk 3
           have k3 : w3.cell? ⟨g, 3, none⟩ = some (.slice A1 s.word.length cp1) := (blk_cell X3.out.rd.blk 3).trans rfl
           clear hd
           refine ⟨_, rfl, ?_⟩)
        | ((with_reducible refine gate_builtin (b := .append) (xs := #[.tmp 57, .tmp 59]) rfl ?_); at_builtin
           refine Kd.R_append (Kd.int .u8) (w0 := w3) base rfl (.tmp 57) (.tmp 59) 27 5 (.int .u8 0) 1 rfl Tryd.underlying27 info5 rfl (by decide) (by omega) (.slice A1 s.word.length cp1) s.word 32 [.int .u8 32] (fun _ => True) (fun _ => False) rfl rfl ?aP (fun _ hk => hk.elim) (fun _ _ => trivial) ?aO ?aB ?aS ?aL ?_
           case aP => exact rfl
           case aO => exact X3.out.rd.word
           case aB => exact Below.refl _ _
           case aS => exact X3.out.rd.size
           case aL => omega
           intro x1 w4 ho hb hg hat
           obtain ⟨A4, cp4, ex1, hcp4, _⟩ := Kd.R_reads ho
           rw [List.length_append, List.length_singleton] at ex1 hcp4
           subst ex1
           have Y4 := Aside0.mk (X3.out.grow ho hb hg hat)
           have f34 := blk_frozen (blk_grown X3.out.rd.blk hg (Kd.R_ne X3.out.rd.word X3.out.rd.blk (by decide))) 3
           have e34 : w4.cell? ⟨g, 3, none⟩ = some (.slice A1 s.word.length cp1) := (blk_cell (blk_grown X3.out.rd.blk hg (Kd.R_ne X3.out.rd.word X3.out.rd.blk (by decide))) 3).trans rfl
           have f24 := blk_frozen (blk_grown X3.out.rd.blk hg (Kd.R_ne X3.out.rd.word X3.out.rd.blk (by decide))) 2
           have e24 : w4.cell? ⟨g, 2, none⟩ = some (.int .i64 s.at_) := (blk_cell (blk_grown X3.out.rd.blk hg (Kd.R_ne X3.out.rd.word X3.out.rd.blk (by decide))) 2).trans rfl
           clear ho hb hg hat
           )
        )
      go_ret
      first | exact ⟨_, rfl, Y4.out⟩ | exact ⟨rfl, _, Y4.out⟩
  · rw [if_neg (fun x => c2 x.1)]
    have d3 : (c == 32) = false := by simpa using c2
    go_wp2_with (first
      | ((with_reducible refine gate_builtin (b := .append) (xs := #[.tmp 16, .tmp 18]) rfl ?_); at_builtin
         refine Kd.R_append (Kd.int .u8) (w0 := w) base rfl (.tmp 16) (.tmp 18) 27 5 (.int .u8 0) 1 rfl Tryd.underlying27 info5 rfl (by decide) (by omega) (.slice A s.word.length cp) s.word c [.int .u8 c] (fun _ => True) (fun _ => False) rfl rfl ?aP (fun _ hk => hk.elim) (fun _ _ => trivial) ?aO ?aB ?aS ?aL ?_
         case aP => exact rfl
         case aO => exact X.out.rd.word
         case aB => exact Below.refl _ _
         case aS => exact X.out.rd.size
         case aL => omega
         intro x1 w1 ho hb hg hat
         obtain ⟨A1, cp1, ex1, hcp1, _⟩ := Kd.R_reads ho
         rw [List.length_append, List.length_singleton] at ex1 hcp1
         subst ex1
         have Y1 := Aside0.mk (X.out.grow ho hb hg hat)
         have f31 := blk_frozen (blk_grown X.out.rd.blk hg (Kd.R_ne X.out.rd.word X.out.rd.blk (by decide))) 3
         have e31 : w1.cell? ⟨g, 3, none⟩ = some (.slice A s.word.length cp) := (blk_cell (blk_grown X.out.rd.blk hg (Kd.R_ne X.out.rd.word X.out.rd.blk (by decide))) 3).trans rfl
         have f21 := blk_frozen (blk_grown X.out.rd.blk hg (Kd.R_ne X.out.rd.word X.out.rd.blk (by decide))) 2
         have e21 : w1.cell? ⟨g, 2, none⟩ = some (.int .i64 s.at_) := (blk_cell (blk_grown X.out.rd.blk hg (Kd.R_ne X.out.rd.word X.out.rd.blk (by decide))) 2).trans rfl
         clear ho hb hg hat
         )
      | ((with_reducible refine gate_callee (f := 100) rfl ?_)
         refine goesL_ (some 52) rfl rfl Tryd.func100 (by kernel_rfl) rfl #[.pointer (some ⟨g, 0, none⟩), .int .u8 c] rfl (by (try simp only [List.map_toArray, List.map_cons, List.map_nil]); first | done | rfl) ?_
         have XC := Aside0.mk (Y1.out.cut (s' := s) (m := s.word.length) (by simp) (push_cut s c))
         (with_reducible refine (version_calls base _ g s (.slice A1 s.word.length cp1) u1 c XC.out.rd).mono ?_)
         rintro e w3 ⟨rfl, hd⟩
         have X3 := Aside0.mk (XC.out.on hd)
         have g3 := blk_frozen X3.out.rd.blk 3
         have k3 : w3.cell? ⟨g, 3, none⟩ = some (.slice A1 s.word.length cp1) := (blk_cell X3.out.rd.blk 3).trans rfl
         clear hd
         refine ⟨_, rfl, ?_⟩)
      | ((with_reducible refine gate_builtin (b := .append) (xs := #[.tmp 57, .tmp 59]) rfl ?_); at_builtin
         refine Kd.R_append (Kd.int .u8) (w0 := w3) base rfl (.tmp 57) (.tmp 59) 27 5 (.int .u8 0) 1 rfl Tryd.underlying27 info5 rfl (by decide) (by omega) (.slice A1 s.word.length cp1) s.word c [.int .u8 c] (fun _ => True) (fun _ => False) rfl rfl ?aP (fun _ hk => hk.elim) (fun _ _ => trivial) ?aO ?aB ?aS ?aL ?_
         case aP => exact rfl
         case aO => exact X3.out.rd.word
         case aB => exact Below.refl _ _
         case aS => exact X3.out.rd.size
         case aL => omega
         intro x1 w4 ho hb hg hat
         obtain ⟨A4, cp4, ex1, hcp4, _⟩ := Kd.R_reads ho
         rw [List.length_append, List.length_singleton] at ex1 hcp4
         subst ex1
         have Y4 := Aside0.mk (X3.out.grow ho hb hg hat)
         have f34 := blk_frozen (blk_grown X3.out.rd.blk hg (Kd.R_ne X3.out.rd.word X3.out.rd.blk (by decide))) 3
         have e34 : w4.cell? ⟨g, 3, none⟩ = some (.slice A1 s.word.length cp1) := (blk_cell (blk_grown X3.out.rd.blk hg (Kd.R_ne X3.out.rd.word X3.out.rd.blk (by decide))) 3).trans rfl
         have f24 := blk_frozen (blk_grown X3.out.rd.blk hg (Kd.R_ne X3.out.rd.word X3.out.rd.blk (by decide))) 2
         have e24 : w4.cell? ⟨g, 2, none⟩ = some (.int .i64 s.at_) := (blk_cell (blk_grown X3.out.rd.blk hg (Kd.R_ne X3.out.rd.word X3.out.rd.blk (by decide))) 2).trans rfl
         clear ho hb hg hat
         )
      )
    go_ret
    first | exact ⟨_, rfl, Y4.out⟩ | exact ⟨rfl, _, Y4.out⟩

theorem statusLine4 (base : Nat) (w : World) (g : Nat) (s : RdSt) (u0 u1 : Value) (c : Int) (hc0 : 0 ≤ c) (hc1 : c ≤ 255) (hl : s.word.length ≤ 1000000) (h : Rd base w g s u0 u1) (c1 : ¬s.at_ = 3) (c0 : s.at_ = 4) :
    Calls Tryd.prog 83 #[.pointer (some ⟨g, 0, none⟩), .int .u8 c] w fun e w' => ∃ v0, e = .returned (.bool (s.statLine c).2) ∧ St base w g u0 u1 w' (s.statLine c).1 v0 u1 := by
  obtain ⟨A, cp, rfl, hcl, hc⟩ := Kd.R_reads h.word
  have e2 : w.cell? ⟨g, 2, none⟩ = some (.int .i64 s.at_) := (blk_cell h.blk 2).trans rfl
  have e3 : w.cell? ⟨g, 3, none⟩ = some (.slice A s.word.length cp) := (blk_cell h.blk 3).trans rfl
  have f2 := blk_frozen h.blk 2
  have f3 := blk_frozen h.blk 3
  have X := Aside0.mk h.st
  have hl0 : (0 : Int) ≤ (s.word.length : Int) := by omega
  have hl0d := decide_eq_true hl0
  clear h hc
  unfold RdSt.statLine
  go_enter Tryd.func83, Tryd.ntmps83
  rw [if_neg c1, if_pos c0]
  have d1 : (s.at_ == 3) = false := by simpa using c1
  have d0 : (s.at_ == 4) = true := by simpa using c0
  by_cases c3 : s.word.length = 3
  · rw [if_pos c3]
    have d3 : ((s.word.length : Int) == 3) = true := by rw [c3]; rfl
    have C3 := Aside0.mk c3
    have hs8 : (strOfNums s.word).size ≤ 9223372036854775807 := by
      rw [strOfNums_size]
      omega
    obtain ⟨kd, hD⟩ := Ev.get (decimal_ev (strOfNums s.word) hs8 999 (by decide))
    have HD := Aside0.mk hD
    clear hD hs8
    clear c3
    go_wp2_with (first
      | ((with_reducible refine gate_builtin (b := .append) (xs := #[.tmp 16, .tmp 18]) rfl ?_); at_builtin
         refine Kd.R_append (Kd.int .u8) (w0 := w) base rfl (.tmp 16) (.tmp 18) 27 5 (.int .u8 0) 1 rfl Tryd.underlying27 info5 rfl (by decide) (by omega) (.slice A s.word.length cp) s.word c [.int .u8 c] (fun _ => True) (fun _ => False) rfl rfl ?aP (fun _ hk => hk.elim) (fun _ _ => trivial) ?aO ?aB ?aS ?aL ?_
         case aP => exact rfl
         case aO => exact X.out.rd.word
         case aB => exact Below.refl _ _
         case aS => exact X.out.rd.size
         case aL => omega
         intro x1 w1 ho hb hg hat
         obtain ⟨A1, cp1, ex1, hcp1, _⟩ := Kd.R_reads ho
         rw [List.length_append, List.length_singleton] at ex1 hcp1
         subst ex1
         have Y1 := Aside0.mk (X.out.grow ho hb hg hat)
         have f31 := blk_frozen (blk_grown X.out.rd.blk hg (Kd.R_ne X.out.rd.word X.out.rd.blk (by decide))) 3
         have e31 : w1.cell? ⟨g, 3, none⟩ = some (.slice A s.word.length cp) := (blk_cell (blk_grown X.out.rd.blk hg (Kd.R_ne X.out.rd.word X.out.rd.blk (by decide))) 3).trans rfl
         have f21 := blk_frozen (blk_grown X.out.rd.blk hg (Kd.R_ne X.out.rd.word X.out.rd.blk (by decide))) 2
         have e21 : w1.cell? ⟨g, 2, none⟩ = some (.int .i64 s.at_) := (blk_cell (blk_grown X.out.rd.blk hg (Kd.R_ne X.out.rd.word X.out.rd.blk (by decide))) 2).trans rfl
         clear ho hb hg hat
         have q3 : 3 ≤ cp1 := by have := C3.out; omega
         have q3i : (3 : Int) ≤ (cp1 : Int) := by omega
         have q3d := decide_eq_true q3i
         )
      | ((with_reducible refine gate_callee (f := 95) rfl ?_)
         refine goesL_ (some 79) rfl rfl Tryd.func95 (by kernel_rfl) rfl #[.pointer (some ⟨g, 0, none⟩), .int .i64 5] rfl (by (try simp only [List.map_toArray, List.map_cons, List.map_nil]); first | done | rfl) ?_
         have XC := Aside0.mk (Y1.out.cut (s' := s) (m := 3) (by have := C3.out; simp; omega) (by have := push_cut s c; rw [C3.out] at this; exact this))
         (with_reducible refine (take_calls base _ g s (.slice A1 3 cp1) u1 5 XC.out.rd).mono ?_)
         rintro e w3 ⟨x3, rfl, hd⟩
         have X3 := Aside0.mk (XC.out.trans hd)
         clear hd
         refine ⟨_, rfl, ?_⟩)
      | ((with_reducible refine gate_callee (f := 64) rfl ?_)
         refine goesL_ (some 80) rfl rfl Tryd.func64 (by kernel_rfl) rfl #[.string (strOfNums s.word), .int .i64 999] rfl (by (try simp only [List.map_toArray, List.map_cons, List.map_nil]); first | done | rfl) ?_
         (with_reducible refine (chars_Decimal.calls kd (strOfNums s.word) 999 _ _ _ HD.out).mono ?_)
         rintro e w2 ⟨rfl, hd⟩
         have Z := Aside0.mk (X3.out.on hd.below)
         have g10 := blk_frozen Z.out.rd.blk 10
         have k10 : w2.cell? ⟨g, 10, none⟩ = some (.int .i64 s.ps) := (blk_cell Z.out.rd.blk 10).trans rfl
         clear hd
         refine ⟨_, rfl, ?_⟩))
    go_ret
    first | exact ⟨_, rfl, Z.out.put 10 _ (s' := {s.taken 5 with ps := decOf s.word}) rfl rfl rfl⟩ | exact ⟨rfl, _, Z.out.put 10 _ (s' := {s.taken 5 with ps := decOf s.word}) rfl rfl rfl⟩
  · rw [if_neg c3]
    have d3 : ((s.word.length : Int) == 3) = false := by
      refine beq_eq_false_iff_ne.mpr (fun x => c3 (by omega))
    clear hl0 hl0d
    cases hb : digB c with
    | false =>
      have HB := Aside0.mk hb
      clear hb
      rw [Bool.false_and]
      go_wp2_with (first
        | ((with_reducible refine gate_builtin (b := .append) (xs := #[.tmp 16, .tmp 18]) rfl ?_); at_builtin
           refine Kd.R_append (Kd.int .u8) (w0 := w) base rfl (.tmp 16) (.tmp 18) 27 5 (.int .u8 0) 1 rfl Tryd.underlying27 info5 rfl (by decide) (by omega) (.slice A s.word.length cp) s.word c [.int .u8 c] (fun _ => True) (fun _ => False) rfl rfl ?aP (fun _ hk => hk.elim) (fun _ _ => trivial) ?aO ?aB ?aS ?aL ?_
           case aP => exact rfl
           case aO => exact X.out.rd.word
           case aB => exact Below.refl _ _
           case aS => exact X.out.rd.size
           case aL => omega
           intro x1 w1 ho hb hg hat
           obtain ⟨A1, cp1, ex1, hcp1, _⟩ := Kd.R_reads ho
           rw [List.length_append, List.length_singleton] at ex1 hcp1
           subst ex1
           have Y1 := Aside0.mk (X.out.grow ho hb hg hat)
           have f31 := blk_frozen (blk_grown X.out.rd.blk hg (Kd.R_ne X.out.rd.word X.out.rd.blk (by decide))) 3
           have e31 : w1.cell? ⟨g, 3, none⟩ = some (.slice A s.word.length cp) := (blk_cell (blk_grown X.out.rd.blk hg (Kd.R_ne X.out.rd.word X.out.rd.blk (by decide))) 3).trans rfl
           have f21 := blk_frozen (blk_grown X.out.rd.blk hg (Kd.R_ne X.out.rd.word X.out.rd.blk (by decide))) 2
           have e21 : w1.cell? ⟨g, 2, none⟩ = some (.int .i64 s.at_) := (blk_cell (blk_grown X.out.rd.blk hg (Kd.R_ne X.out.rd.word X.out.rd.blk (by decide))) 2).trans rfl
           clear ho hb hg hat
           )
        | ((with_reducible refine gate_callee (f := 101) rfl ?_)
           refine goesL_ (some 89) rfl rfl Tryd.func101 (by kernel_rfl) rfl #[.int .u8 c] rfl (by (try simp only [List.map_toArray, List.map_cons, List.map_nil]); first | done | rfl) ?_
           (with_reducible refine (chars_Digit.calls c false _ (digB_f' c false HB.out)).mono ?_)
           rintro e w2 ⟨rfl, hd⟩
           have Z := Aside0.mk (Y1.out.on hd.below)
           clear hd
           refine ⟨_, rfl, ?_⟩))
      go_ret
      first | exact ⟨_, rfl, Z.out⟩ | exact ⟨rfl, _, Z.out⟩
    | true =>
      have HB := Aside0.mk hb
      clear hb
      rw [Bool.true_and]
      by_cases z : 0 < s.word.length
      · rw [decide_eq_true z, Bool.true_or]
        have z1 : decide ((s.word.length : Int) > 0) = true := decide_eq_true (by omega)
        go_wp2_with (first
          | ((with_reducible refine gate_builtin (b := .append) (xs := #[.tmp 16, .tmp 18]) rfl ?_); at_builtin
             refine Kd.R_append (Kd.int .u8) (w0 := w) base rfl (.tmp 16) (.tmp 18) 27 5 (.int .u8 0) 1 rfl Tryd.underlying27 info5 rfl (by decide) (by omega) (.slice A s.word.length cp) s.word c [.int .u8 c] (fun _ => True) (fun _ => False) rfl rfl ?aP (fun _ hk => hk.elim) (fun _ _ => trivial) ?aO ?aB ?aS ?aL ?_
             case aP => exact rfl
             case aO => exact X.out.rd.word
             case aB => exact Below.refl _ _
             case aS => exact X.out.rd.size
             case aL => omega
             intro x1 w1 ho hb hg hat
             obtain ⟨A1, cp1, ex1, hcp1, _⟩ := Kd.R_reads ho
             rw [List.length_append, List.length_singleton] at ex1 hcp1
             subst ex1
             have Y1 := Aside0.mk (X.out.grow ho hb hg hat)
             have f31 := blk_frozen (blk_grown X.out.rd.blk hg (Kd.R_ne X.out.rd.word X.out.rd.blk (by decide))) 3
             have e31 : w1.cell? ⟨g, 3, none⟩ = some (.slice A s.word.length cp) := (blk_cell (blk_grown X.out.rd.blk hg (Kd.R_ne X.out.rd.word X.out.rd.blk (by decide))) 3).trans rfl
             have f21 := blk_frozen (blk_grown X.out.rd.blk hg (Kd.R_ne X.out.rd.word X.out.rd.blk (by decide))) 2
             have e21 : w1.cell? ⟨g, 2, none⟩ = some (.int .i64 s.at_) := (blk_cell (blk_grown X.out.rd.blk hg (Kd.R_ne X.out.rd.word X.out.rd.blk (by decide))) 2).trans rfl
             clear ho hb hg hat
             )
          | ((with_reducible refine gate_callee (f := 101) rfl ?_)
             refine goesL_ (some 89) rfl rfl Tryd.func101 (by kernel_rfl) rfl #[.int .u8 c] rfl (by (try simp only [List.map_toArray, List.map_cons, List.map_nil]); first | done | rfl) ?_
             (with_reducible refine (chars_Digit.calls c true _ (digB_f' c true HB.out)).mono ?_)
             rintro e w2 ⟨rfl, hd⟩
             have Z := Aside0.mk (Y1.out.on hd.below)
             clear hd
             refine ⟨_, rfl, ?_⟩))
        go_ret
        first | exact ⟨_, rfl, Z.out⟩ | exact ⟨rfl, _, Z.out⟩
      · rw [decide_eq_false z, Bool.false_or]
        have z1 : decide ((s.word.length : Int) > 0) = false := decide_eq_false (by omega)
        by_cases y : 49 ≤ c
        · rw [decide_eq_true y, Bool.true_and]
          have y1 : decide (c ≥ 49) = true := decide_eq_true y
          clear y
          go_wp2_with (first
            | ((with_reducible refine gate_builtin (b := .append) (xs := #[.tmp 16, .tmp 18]) rfl ?_); at_builtin
               refine Kd.R_append (Kd.int .u8) (w0 := w) base rfl (.tmp 16) (.tmp 18) 27 5 (.int .u8 0) 1 rfl Tryd.underlying27 info5 rfl (by decide) (by omega) (.slice A s.word.length cp) s.word c [.int .u8 c] (fun _ => True) (fun _ => False) rfl rfl ?aP (fun _ hk => hk.elim) (fun _ _ => trivial) ?aO ?aB ?aS ?aL ?_
               case aP => exact rfl
               case aO => exact X.out.rd.word
               case aB => exact Below.refl _ _
               case aS => exact X.out.rd.size
               case aL => omega
               intro x1 w1 ho hb hg hat
               obtain ⟨A1, cp1, ex1, hcp1, _⟩ := Kd.R_reads ho
               rw [List.length_append, List.length_singleton] at ex1 hcp1
               subst ex1
               have Y1 := Aside0.mk (X.out.grow ho hb hg hat)
               have f31 := blk_frozen (blk_grown X.out.rd.blk hg (Kd.R_ne X.out.rd.word X.out.rd.blk (by decide))) 3
               have e31 : w1.cell? ⟨g, 3, none⟩ = some (.slice A s.word.length cp) := (blk_cell (blk_grown X.out.rd.blk hg (Kd.R_ne X.out.rd.word X.out.rd.blk (by decide))) 3).trans rfl
               have f21 := blk_frozen (blk_grown X.out.rd.blk hg (Kd.R_ne X.out.rd.word X.out.rd.blk (by decide))) 2
               have e21 : w1.cell? ⟨g, 2, none⟩ = some (.int .i64 s.at_) := (blk_cell (blk_grown X.out.rd.blk hg (Kd.R_ne X.out.rd.word X.out.rd.blk (by decide))) 2).trans rfl
               clear ho hb hg hat
               )
            | ((with_reducible refine gate_callee (f := 101) rfl ?_)
               refine goesL_ (some 89) rfl rfl Tryd.func101 (by kernel_rfl) rfl #[.int .u8 c] rfl (by (try simp only [List.map_toArray, List.map_cons, List.map_nil]); first | done | rfl) ?_
               (with_reducible refine (chars_Digit.calls c true _ (digB_f' c true HB.out)).mono ?_)
               rintro e w2 ⟨rfl, hd⟩
               have Z := Aside0.mk (Y1.out.on hd.below)
               clear hd
               refine ⟨_, rfl, ?_⟩))
          go_ret
          first | exact ⟨_, rfl, Z.out⟩ | exact ⟨rfl, _, Z.out⟩
        · rw [decide_eq_false y, Bool.false_and]
          have y1 : decide (c ≥ 49) = false := decide_eq_false y
          clear y
          go_wp2_with (first
            | ((with_reducible refine gate_builtin (b := .append) (xs := #[.tmp 16, .tmp 18]) rfl ?_); at_builtin
               refine Kd.R_append (Kd.int .u8) (w0 := w) base rfl (.tmp 16) (.tmp 18) 27 5 (.int .u8 0) 1 rfl Tryd.underlying27 info5 rfl (by decide) (by omega) (.slice A s.word.length cp) s.word c [.int .u8 c] (fun _ => True) (fun _ => False) rfl rfl ?aP (fun _ hk => hk.elim) (fun _ _ => trivial) ?aO ?aB ?aS ?aL ?_
               case aP => exact rfl
               case aO => exact X.out.rd.word
               case aB => exact Below.refl _ _
               case aS => exact X.out.rd.size
               case aL => omega
               intro x1 w1 ho hb hg hat
               obtain ⟨A1, cp1, ex1, hcp1, _⟩ := Kd.R_reads ho
               rw [List.length_append, List.length_singleton] at ex1 hcp1
               subst ex1
               have Y1 := Aside0.mk (X.out.grow ho hb hg hat)
               have f31 := blk_frozen (blk_grown X.out.rd.blk hg (Kd.R_ne X.out.rd.word X.out.rd.blk (by decide))) 3
               have e31 : w1.cell? ⟨g, 3, none⟩ = some (.slice A s.word.length cp) := (blk_cell (blk_grown X.out.rd.blk hg (Kd.R_ne X.out.rd.word X.out.rd.blk (by decide))) 3).trans rfl
               have f21 := blk_frozen (blk_grown X.out.rd.blk hg (Kd.R_ne X.out.rd.word X.out.rd.blk (by decide))) 2
               have e21 : w1.cell? ⟨g, 2, none⟩ = some (.int .i64 s.at_) := (blk_cell (blk_grown X.out.rd.blk hg (Kd.R_ne X.out.rd.word X.out.rd.blk (by decide))) 2).trans rfl
               clear ho hb hg hat
               )
            | ((with_reducible refine gate_callee (f := 101) rfl ?_)
               refine goesL_ (some 89) rfl rfl Tryd.func101 (by kernel_rfl) rfl #[.int .u8 c] rfl (by (try simp only [List.map_toArray, List.map_cons, List.map_nil]); first | done | rfl) ?_
               (with_reducible refine (chars_Digit.calls c true _ (digB_f' c true HB.out)).mono ?_)
               rintro e w2 ⟨rfl, hd⟩
               have Z := Aside0.mk (Y1.out.on hd.below)
               clear hd
               refine ⟨_, rfl, ?_⟩))
          go_ret
          first | exact ⟨_, rfl, Z.out⟩ | exact ⟨rfl, _, Z.out⟩

theorem statusLine5 (base : Nat) (w : World) (g : Nat) (s : RdSt) (u0 u1 : Value) (c : Int) (hc0 : 0 ≤ c) (hc1 : c ≤ 255) (hl : s.word.length ≤ 1000000) (h : Rd base w g s u0 u1) (c1 : ¬s.at_ = 3) (c0 : ¬s.at_ = 4) :
    Calls Tryd.prog 83 #[.pointer (some ⟨g, 0, none⟩), .int .u8 c] w fun e w' => ∃ v0, e = .returned (.bool (s.statLine c).2) ∧ St base w g u0 u1 w' (s.statLine c).1 v0 u1 := by
  obtain ⟨A, cp, rfl, hcl, hc⟩ := Kd.R_reads h.word
  have e2 : w.cell? ⟨g, 2, none⟩ = some (.int .i64 s.at_) := (blk_cell h.blk 2).trans rfl
  have e3 : w.cell? ⟨g, 3, none⟩ = some (.slice A s.word.length cp) := (blk_cell h.blk 3).trans rfl
  have f2 := blk_frozen h.blk 2
  have f3 := blk_frozen h.blk 3
  have X := Aside0.mk h.st
  have hl0 : (0 : Int) ≤ (s.word.length : Int) := by omega
  have hl0d := decide_eq_true hl0
  clear h hc
  unfold RdSt.statLine
  go_enter Tryd.func83, Tryd.ntmps83
  rw [if_neg c1, if_neg c0]
  have d1 : (s.at_ == 3) = false := by simpa using c1
  have d0 : (s.at_ == 4) = false := by simpa using c0
  by_cases c2 : c = 13
  · subst c2
    rw [if_pos rfl]
    go_wp2_with (first
      | ((with_reducible refine gate_builtin (b := .append) (xs := #[.tmp 16, .tmp 18]) rfl ?_); at_builtin
         refine Kd.R_append (Kd.int .u8) (w0 := w) base rfl (.tmp 16) (.tmp 18) 27 5 (.int .u8 0) 1 rfl Tryd.underlying27 info5 rfl (by decide) (by omega) (.slice A s.word.length cp) s.word 13 [.int .u8 13] (fun _ => True) (fun _ => False) rfl rfl ?aP (fun _ hk => hk.elim) (fun _ _ => trivial) ?aO ?aB ?aS ?aL ?_
         case aP => exact rfl
         case aO => exact X.out.rd.word
         case aB => exact Below.refl _ _
         case aS => exact X.out.rd.size
         case aL => omega
         intro x1 w1 ho hb hg hat
         obtain ⟨A1, cp1, ex1, hcp1, _⟩ := Kd.R_reads ho
         rw [List.length_append, List.length_singleton] at ex1 hcp1
         subst ex1
         have Y1 := Aside0.mk (X.out.grow ho hb hg hat)
         have f31 := blk_frozen (blk_grown X.out.rd.blk hg (Kd.R_ne X.out.rd.word X.out.rd.blk (by decide))) 3
         have e31 : w1.cell? ⟨g, 3, none⟩ = some (.slice A s.word.length cp) := (blk_cell (blk_grown X.out.rd.blk hg (Kd.R_ne X.out.rd.word X.out.rd.blk (by decide))) 3).trans rfl
         have f21 := blk_frozen (blk_grown X.out.rd.blk hg (Kd.R_ne X.out.rd.word X.out.rd.blk (by decide))) 2
         have e21 : w1.cell? ⟨g, 2, none⟩ = some (.int .i64 s.at_) := (blk_cell (blk_grown X.out.rd.blk hg (Kd.R_ne X.out.rd.word X.out.rd.blk (by decide))) 2).trans rfl
         clear ho hb hg hat
         )
      | ((with_reducible refine gate_callee (f := 95) rfl ?_)
         refine goesL_ (some 115) rfl rfl Tryd.func95 (by kernel_rfl) rfl #[.pointer (some ⟨g, 0, none⟩), .int .i64 6] rfl (by (try simp only [List.map_toArray, List.map_cons, List.map_nil]); first | done | rfl) ?_
         have XC := Aside0.mk (Y1.out.cut (s' := s) (m := s.word.length) (by simp) (push_cut s 13))
         (with_reducible refine (take_calls base _ g s (.slice A1 s.word.length cp1) u1 6 XC.out.rd).mono ?_)
         rintro e w3 ⟨x3, rfl, hd⟩
         have Z := Aside0.mk (XC.out.trans hd)
         have g11 := blk_frozen Z.out.rd.blk 11
         have k11 : w3.cell? ⟨g, 11, none⟩ = some (.string s.pr) := (blk_cell Z.out.rd.blk 11).trans rfl
         clear hd
         refine ⟨_, rfl, ?_⟩))
    go_ret
    exact ⟨rfl, _, Z.out.put 11 _ (s' := {s.taken 6 with pr := strOfNums s.word}) rfl rfl rfl⟩
  · rw [if_neg c2]
    have d3 : (c == 13) = false := by simpa using c2
    go_wp2_with (first
      | ((with_reducible refine gate_builtin (b := .append) (xs := #[.tmp 16, .tmp 18]) rfl ?_); at_builtin
         refine Kd.R_append (Kd.int .u8) (w0 := w) base rfl (.tmp 16) (.tmp 18) 27 5 (.int .u8 0) 1 rfl Tryd.underlying27 info5 rfl (by decide) (by omega) (.slice A s.word.length cp) s.word c [.int .u8 c] (fun _ => True) (fun _ => False) rfl rfl ?aP (fun _ hk => hk.elim) (fun _ _ => trivial) ?aO ?aB ?aS ?aL ?_
         case aP => exact rfl
         case aO => exact X.out.rd.word
         case aB => exact Below.refl _ _
         case aS => exact X.out.rd.size
         case aL => omega
         intro x1 w1 ho hb hg hat
         obtain ⟨A1, cp1, ex1, hcp1, _⟩ := Kd.R_reads ho
         rw [List.length_append, List.length_singleton] at ex1 hcp1
         subst ex1
         have Y1 := Aside0.mk (X.out.grow ho hb hg hat)
         have f31 := blk_frozen (blk_grown X.out.rd.blk hg (Kd.R_ne X.out.rd.word X.out.rd.blk (by decide))) 3
         have e31 : w1.cell? ⟨g, 3, none⟩ = some (.slice A s.word.length cp) := (blk_cell (blk_grown X.out.rd.blk hg (Kd.R_ne X.out.rd.word X.out.rd.blk (by decide))) 3).trans rfl
         have f21 := blk_frozen (blk_grown X.out.rd.blk hg (Kd.R_ne X.out.rd.word X.out.rd.blk (by decide))) 2
         have e21 : w1.cell? ⟨g, 2, none⟩ = some (.int .i64 s.at_) := (blk_cell (blk_grown X.out.rd.blk hg (Kd.R_ne X.out.rd.word X.out.rd.blk (by decide))) 2).trans rfl
         clear ho hb hg hat
         )
      | ((with_reducible refine gate_callee (f := 97) rfl ?_)
         refine goesL_ (some 120) rfl rfl Tryd.func97 (by kernel_rfl) rfl #[.int .u8 c] rfl (by (try simp only [List.map_toArray, List.map_cons, List.map_nil]); first | done | rfl) ?_
         (with_reducible refine (chars_Value.calls c _ _ (val_f c)).mono ?_)
         rintro e w2 ⟨rfl, hd⟩
         have Z := Aside0.mk (Y1.out.on hd.below)
         clear hd
         refine ⟨_, rfl, ?_⟩))
    go_ret
    first | exact ⟨_, rfl, Z.out⟩ | exact ⟨rfl, _, Z.out⟩

theorem statusLine_calls (base : Nat) (w : World) (g : Nat) (s : RdSt) (u0 u1 : Value) (c : Int) (hc0 : 0 ≤ c) (hc1 : c ≤ 255) (hl : s.word.length ≤ 1000000) (h : Rd base w g s u0 u1) :
    Calls Tryd.prog 83 #[.pointer (some ⟨g, 0, none⟩), .int .u8 c] w fun e w' => ∃ v0, e = .returned (.bool (s.statLine c).2) ∧ St base w g u0 u1 w' (s.statLine c).1 v0 u1 := by
  by_cases c1 : s.at_ = 3
  · exact statusLine3 base w g s u0 u1 c hc0 hc1 hl h c1
  · by_cases c0 : s.at_ = 4
    · exact statusLine4 base w g s u0 u1 c hc0 hc1 hl h c1 c0
    · exact statusLine5 base w g s u0 u1 c hc0 hc1 hl h c1 c0

end Go.Proofs.YtmmlacbcolfngaaDoor.Q
