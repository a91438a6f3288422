/- The method of a head's reader that reads a byte of a request's first line. By hand. -/
import Derived.Test.YtmmlacbcolfngaaDoorHRdTake
import Derived.Test.YtmmlacbcolfngaaDoorLChars
import Derived.Test.YtmmlacbcolfngaaDoorQChars
import Derived.Test.YtmmlacbcolfngaaDoorQChars
import Derived.Test.YtmmlacbcolfngaaDoorQHead
namespace Go.Proofs.YtmmlacbcolfngaaDoor.Q
open Go.RowKit Go.Proofs.YtmmlacbcolfngaaDoorW.PrintWords Go.Proofs.YtmmlacbcolfngaaDoorW.PrintLast Go.Proofs.YtmmlacbcolfngaaDoorW.PrintMore
attribute [local go_sem] max2_int min2_int max_two min_two max_three min_three max_four min_four
set_option linter.unusedVariables false
set_option linter.unusedSimpArgs false
set_option maxRecDepth 8000

def isVis (c : Int) : Bool := if c > 32 then decide (c < 127) else false
theorem vis_f (c : Int) : chars_Visible.f c = some (isVis c) := by
  unfold chars_Visible.f isVis
  split <;> rfl
def isVal (c : Int) : Bool := if c = 9 then true else if c ≥ 32 then c != 127 else false
theorem val_f (c : Int) : chars_Value.f c = some (isVal c) := by
  unfold chars_Value.f isVal
  split
  · rfl
  · split <;> rfl
def minorOf (word : List Int) : Int := ((bt (strOfNums word) 7) - 48) % 256
theorem minor_f (l : List Int) (h : l.length = 8) : head_minor.f (strOfNums l) = some (minorOf l) := by
  unfold head_minor.f minorOf
  rw [if_pos (by rw [strOfNums_size]; omega)]

def RdSt.push (s : RdSt) (c : Int) : RdSt := {s with word := s.word ++ [c]}

def RdSt.reqLine (s : RdSt) (c : Int) : RdSt × Bool :=
  if s.at_ = 0 then (if c = 32 ∧ 0 < s.word.length then ({s.taken 1 with qm := strOfNums s.word}, true) else (s.push c, isTok c))
  else if s.at_ = 1 then (if c = 32 ∧ 0 < s.word.length then ({s.taken 2 with qt := strOfNums s.word}, true) else (s.push c, isVis c))
  else if c = 13 ∧ s.word.length = 8 then ({s.taken 6 with qn := minorOf s.word}, true) else (s.push c, isVersion s.word c)

theorem requestLine_calls (base : Nat) (w : World) (g : Nat) (s : RdSt) (u0 u1 : Value) (c : Int) (hc0 : 0 ≤ c) (hc1 : c ≤ 255) (hl : s.word.length ≤ 1000000) (h : Rd base w g s u0 u1) :
    Calls Tryd.prog 82 #[.pointer (some ⟨g, 0, none⟩), .int .u8 c] w fun e w' => ∃ v0, e = .returned (.bool (s.reqLine c).2) ∧ St base w g u0 u1 w' (s.reqLine c).1 v0 u1 := by
  obtain ⟨A, cp, rfl, hcl, hc⟩ := Kd.R_reads h.word
  have e2 : w.cell? ⟨g, 2, none⟩ = some (.int .i64 s.at_) := (blk_cell h.blk 2).trans rfl
  have e3 : w.cell? ⟨g, 3, none⟩ = some (.slice A s.word.length cp) := (blk_cell h.blk 3).trans rfl
  have f2 := blk_frozen h.blk 2
  have f3 := blk_frozen h.blk 3
  have e6 : w.cell? ⟨g, 6, none⟩ = some (.string s.qm) := (blk_cell h.blk 6).trans rfl
  have e7 : w.cell? ⟨g, 7, none⟩ = some (.string s.qt) := (blk_cell h.blk 7).trans rfl
  have e8 : w.cell? ⟨g, 8, none⟩ = some (.int .i64 s.qn) := (blk_cell h.blk 8).trans rfl
  have f6 := blk_frozen h.blk 6
  have f7 := blk_frozen h.blk 7
  have f8 := blk_frozen h.blk 8
  have hcv := Kd.C_string (P := Tryd.prog) (A := A) (c := cp) (src := 27) (dst := 9) (e := 5) Tryd.underlying27 Tryd.underlying5 Tryd.underlying9 hc
  have X := Aside0.mk h.st
  clear h hc
  unfold RdSt.reqLine
  go_enter Tryd.func82, Tryd.ntmps82
  by_cases c1 : s.at_ = 0
  · rw [if_pos c1]
    rw [c1] at e2
    by_cases c2 : c = 32
    · subst c2
      by_cases c3 : 0 < s.word.length
      · rw [if_pos ⟨rfl, c3⟩]
        have d3 : decide ((s.word.length : Int) > 0) = true := decide_eq_true (by omega)
        go_wp2
        go_ret
        exact ⟨rfl, _, (((X.out.cut (Nat.zero_le _) rfl).put 2 _ (s' := s.taken 1) rfl rfl rfl).put 6 _ rfl rfl rfl)⟩
      · rw [if_neg (fun x => c3 x.2)]
        have d3 : decide ((s.word.length : Int) > 0) = false := decide_eq_false (by omega)
        go_wp2_with (first
          | ((with_reducible refine gate_builtin (b := .append) (xs := #[.tmp 32, .tmp 34]) rfl ?_); at_builtin
             refine Kd.R_append (Kd.int .u8) (w0 := w) base rfl (.tmp 32) (.tmp 34) 27 5 (.int .u8 0) 1 rfl Tryd.underlying27 info5 rfl (by decide) (by omega) (.slice A s.word.length cp) s.word 32 [.int .u8 32] (fun _ => True) (fun _ => False) rfl rfl ?aP (fun _ hk => hk.elim) (fun _ _ => trivial) ?aO ?aB ?aS ?aL ?_
             case aP => exact rfl
             case aO => exact X.out.rd.word
             case aB => exact Below.refl _ _
             case aS => exact X.out.rd.size
             case aL => omega
             intro x1 w1 ho hb hg hat
             obtain ⟨A1, cp1, ex1, _, _⟩ := Kd.R_reads ho
             rw [List.length_append, List.length_singleton] at ex1
             subst ex1
             have Y := Aside0.mk (X.out.grow ho hb hg hat)
             have f13 := blk_frozen (blk_grown X.out.rd.blk hg (Kd.R_ne X.out.rd.word X.out.rd.blk (by decide))) 3
             have e13 : w1.cell? ⟨g, 3, none⟩ = some (.slice A s.word.length cp) := (blk_cell (blk_grown X.out.rd.blk hg (Kd.R_ne X.out.rd.word X.out.rd.blk (by decide))) 3).trans rfl
             clear ho hb hg hat)
          | ((with_reducible refine gate_callee (f := 96) rfl ?_)
             refine goesL_ (some 39) rfl rfl Tryd.func96 (by kernel_rfl) rfl #[.int .u8 32] rfl (by (try simp only [List.map_toArray, List.map_cons, List.map_nil]); first | done | rfl) ?_
             (with_reducible refine (chars_Token.calls 32 _ _ (tok_f _ (by decide) (by decide))).mono ?_)
             rintro e w2 ⟨rfl, hd⟩
             have Z := Aside0.mk (Y.out.on hd.below)
             clear hd
             refine ⟨_, rfl, ?_⟩))
        go_ret
        first | exact ⟨_, rfl, Z.out⟩ | exact ⟨rfl, _, Z.out⟩
    · rw [if_neg (fun x => c2 x.1)]
      have d3 : (c == 32) = false := by simpa using c2
      go_wp2_with (first
        | ((with_reducible refine gate_builtin (b := .append) (xs := #[.tmp 32, .tmp 34]) rfl ?_); at_builtin
           refine Kd.R_append (Kd.int .u8) (w0 := w) base rfl (.tmp 32) (.tmp 34) 27 5 (.int .u8 0) 1 rfl Tryd.underlying27 info5 rfl (by decide) (by omega) (.slice A s.word.length cp) s.word c [.int .u8 c] (fun _ => True) (fun _ => False) rfl rfl ?aP (fun _ hk => hk.elim) (fun _ _ => trivial) ?aO ?aB ?aS ?aL ?_
           case aP => exact rfl
           case aO => exact X.out.rd.word
           case aB => exact Below.refl _ _
           case aS => exact X.out.rd.size
           case aL => omega
           intro x1 w1 ho hb hg hat
           obtain ⟨A1, cp1, ex1, _, _⟩ := Kd.R_reads ho
           rw [List.length_append, List.length_singleton] at ex1
           subst ex1
           have Y := Aside0.mk (X.out.grow ho hb hg hat)
           have f13 := blk_frozen (blk_grown X.out.rd.blk hg (Kd.R_ne X.out.rd.word X.out.rd.blk (by decide))) 3
           have e13 : w1.cell? ⟨g, 3, none⟩ = some (.slice A s.word.length cp) := (blk_cell (blk_grown X.out.rd.blk hg (Kd.R_ne X.out.rd.word X.out.rd.blk (by decide))) 3).trans rfl
           clear ho hb hg hat)
        | ((with_reducible refine gate_callee (f := 96) rfl ?_)
           refine goesL_ (some 39) rfl rfl Tryd.func96 (by kernel_rfl) rfl #[.int .u8 c] rfl (by (try simp only [List.map_toArray, List.map_cons, List.map_nil]); first | done | rfl) ?_
           (with_reducible refine (chars_Token.calls c _ _ (tok_f _ hc0 hc1)).mono ?_)
           rintro e w2 ⟨rfl, hd⟩
           have Z := Aside0.mk (Y.out.on hd.below)
           clear hd
           refine ⟨_, rfl, ?_⟩))
      go_ret
      first | exact ⟨_, rfl, Z.out⟩ | exact ⟨rfl, _, Z.out⟩
  · rw [if_neg c1]
    have d1 : (s.at_ == 0) = false := by simpa using c1
    by_cases c0 : s.at_ = 1
    · rw [if_pos c0]
      rw [c0] at e2
      clear d1
      by_cases c2 : c = 32
      · subst c2
        by_cases c3 : 0 < s.word.length
        · rw [if_pos ⟨rfl, c3⟩]
          have d3 : decide ((s.word.length : Int) > 0) = true := decide_eq_true (by omega)
          go_wp2
          go_ret
          exact ⟨rfl, _, (((X.out.cut (Nat.zero_le _) rfl).put 2 _ (s' := s.taken 2) rfl rfl rfl).put 7 _ rfl rfl rfl)⟩
        · rw [if_neg (fun x => c3 x.2)]
          have d3 : decide ((s.word.length : Int) > 0) = false := decide_eq_false (by omega)
          go_wp2_with (first
            | ((with_reducible refine gate_builtin (b := .append) (xs := #[.tmp 62, .tmp 64]) rfl ?_); at_builtin
               refine Kd.R_append (Kd.int .u8) (w0 := w) base rfl (.tmp 62) (.tmp 64) 27 5 (.int .u8 0) 1 rfl Tryd.underlying27 info5 rfl (by decide) (by omega) (.slice A s.word.length cp) s.word 32 [.int .u8 32] (fun _ => True) (fun _ => False) rfl rfl ?aP (fun _ hk => hk.elim) (fun _ _ => trivial) ?aO ?aB ?aS ?aL ?_
               case aP => exact rfl
               case aO => exact X.out.rd.word
               case aB => exact Below.refl _ _
               case aS => exact X.out.rd.size
               case aL => omega
               intro x1 w1 ho hb hg hat
               obtain ⟨A1, cp1, ex1, _, _⟩ := Kd.R_reads ho
               rw [List.length_append, List.length_singleton] at ex1
               subst ex1
               have Y := Aside0.mk (X.out.grow ho hb hg hat)
               have f13 := blk_frozen (blk_grown X.out.rd.blk hg (Kd.R_ne X.out.rd.word X.out.rd.blk (by decide))) 3
               have e13 : w1.cell? ⟨g, 3, none⟩ = some (.slice A s.word.length cp) := (blk_cell (blk_grown X.out.rd.blk hg (Kd.R_ne X.out.rd.word X.out.rd.blk (by decide))) 3).trans rfl
               clear ho hb hg hat)
            | ((with_reducible refine gate_callee (f := 98) rfl ?_)
               refine goesL_ (some 69) rfl rfl Tryd.func98 (by kernel_rfl) rfl #[.int .u8 32] rfl (by (try simp only [List.map_toArray, List.map_cons, List.map_nil]); first | done | rfl) ?_
               (with_reducible refine (chars_Visible.calls 32 _ _ (vis_f _)).mono ?_)
               rintro e w2 ⟨rfl, hd⟩
               have Z := Aside0.mk (Y.out.on hd.below)
               clear hd
               refine ⟨_, rfl, ?_⟩))
          go_ret
          first | exact ⟨_, rfl, Z.out⟩ | exact ⟨rfl, _, Z.out⟩
      · rw [if_neg (fun x => c2 x.1)]
        have d3 : (c == 32) = false := by simpa using c2
        go_wp2_with (first
          | ((with_reducible refine gate_builtin (b := .append) (xs := #[.tmp 62, .tmp 64]) rfl ?_); at_builtin
             refine Kd.R_append (Kd.int .u8) (w0 := w) base rfl (.tmp 62) (.tmp 64) 27 5 (.int .u8 0) 1 rfl Tryd.underlying27 info5 rfl (by decide) (by omega) (.slice A s.word.length cp) s.word c [.int .u8 c] (fun _ => True) (fun _ => False) rfl rfl ?aP (fun _ hk => hk.elim) (fun _ _ => trivial) ?aO ?aB ?aS ?aL ?_
             case aP => exact rfl
             case aO => exact X.out.rd.word
             case aB => exact Below.refl _ _
             case aS => exact X.out.rd.size
             case aL => omega
             intro x1 w1 ho hb hg hat
             obtain ⟨A1, cp1, ex1, _, _⟩ := Kd.R_reads ho
             rw [List.length_append, List.length_singleton] at ex1
             subst ex1
             have Y := Aside0.mk (X.out.grow ho hb hg hat)
             have f13 := blk_frozen (blk_grown X.out.rd.blk hg (Kd.R_ne X.out.rd.word X.out.rd.blk (by decide))) 3
             have e13 : w1.cell? ⟨g, 3, none⟩ = some (.slice A s.word.length cp) := (blk_cell (blk_grown X.out.rd.blk hg (Kd.R_ne X.out.rd.word X.out.rd.blk (by decide))) 3).trans rfl
             clear ho hb hg hat)
          | ((with_reducible refine gate_callee (f := 98) rfl ?_)
             refine goesL_ (some 69) rfl rfl Tryd.func98 (by kernel_rfl) rfl #[.int .u8 c] rfl (by (try simp only [List.map_toArray, List.map_cons, List.map_nil]); first | done | rfl) ?_
             (with_reducible refine (chars_Visible.calls c _ _ (vis_f _)).mono ?_)
             rintro e w2 ⟨rfl, hd⟩
             have Z := Aside0.mk (Y.out.on hd.below)
             clear hd
             refine ⟨_, rfl, ?_⟩))
        go_ret
        first | exact ⟨_, rfl, Z.out⟩ | exact ⟨rfl, _, Z.out⟩
    · rw [if_neg c0]
      have d0 : (s.at_ == 1) = false := by simpa using c0
      by_cases c2 : c = 13
      · subst c2
        by_cases c3 : s.word.length = 8
        · rw [if_pos ⟨rfl, c3⟩]
          have d3 : ((s.word.length : Int) == 8) = true := by rw [c3]; rfl
          have C3 := Aside0.mk c3
          clear c3
          go_wp2_with (first
            | ((with_reducible refine gate_callee (f := 95) rfl ?_)
               refine goesL_ (some 82) rfl rfl Tryd.func95 (by kernel_rfl) rfl #[.pointer (some ⟨g, 0, none⟩), .int .i64 6] rfl (by (try simp only [List.map_toArray, List.map_cons, List.map_nil]); first | done | rfl) ?_
               (with_reducible refine (take_calls base w g s (.slice A s.word.length cp) u1 6 X.out.rd).mono ?_)
               rintro e w3 ⟨x3, rfl, hd⟩
               have X3 := Aside0.mk (X.out.trans hd)
               clear hd
               refine ⟨_, rfl, ?_⟩)
            | ((with_reducible refine gate_callee (f := 99) rfl ?_)
               refine goesL_ (some 83) rfl rfl Tryd.func99 (by kernel_rfl) rfl #[.string (strOfNums s.word)] rfl (by (try simp only [List.map_toArray, List.map_cons, List.map_nil]); first | done | rfl) ?_
               (with_reducible refine (head_minor.calls (strOfNums s.word) _ _ (minor_f s.word C3.out)).mono ?_)
               rintro e w2 ⟨rfl, hd⟩
               have Z := Aside0.mk (X3.out.on hd.below)
               have g8 := blk_frozen Z.out.rd.blk 8
               have k8 : w2.cell? ⟨g, 8, none⟩ = some (.int .i64 s.qn) := (blk_cell Z.out.rd.blk 8).trans rfl
               clear hd
               refine ⟨_, rfl, ?_⟩))
          go_ret
          exact ⟨rfl, _, Z.out.put 8 _ (s' := {s.taken 6 with qn := minorOf s.word}) rfl rfl rfl⟩
        · rw [if_neg (fun x => c3 x.2)]
          have d3 : ((s.word.length : Int) == 8) = false := by
            refine beq_eq_false_iff_ne.mpr (fun x => c3 (by omega))
          go_wp2_with (first
            | ((with_reducible refine gate_callee (f := 100) rfl ?_)
               refine goesL_ (some 89) rfl rfl Tryd.func100 (by kernel_rfl) rfl #[.pointer (some ⟨g, 0, none⟩), .int .u8 13] rfl (by (try simp only [List.map_toArray, List.map_cons, List.map_nil]); first | done | rfl) ?_
               (with_reducible refine (version_calls base w g s (.slice A s.word.length cp) u1 13 X.out.rd).mono ?_)
               rintro e w3 ⟨rfl, hd⟩
               have X3 := Aside0.mk (X.out.on hd)
               have g3 := blk_frozen X3.out.rd.blk 3
               have k3 : w3.cell? ⟨g, 3, none⟩ = some (.slice A s.word.length cp) := (blk_cell X3.out.rd.blk 3).trans rfl
               clear hd
               refine ⟨_, rfl, ?_⟩)
            | ((with_reducible refine gate_builtin (b := .append) (xs := #[.tmp 94, .tmp 96]) rfl ?_); at_builtin
               refine Kd.R_append (Kd.int .u8) (w0 := w3) base rfl (.tmp 94) (.tmp 96) 27 5 (.int .u8 0) 1 rfl Tryd.underlying27 info5 rfl (by decide) (by omega) (.slice A s.word.length cp) s.word 13 [.int .u8 13] (fun _ => True) (fun _ => False) rfl rfl ?aP (fun _ hk => hk.elim) (fun _ _ => trivial) ?aO ?aB ?aS ?aL ?_
               case aP => exact rfl
               case aO => exact X3.out.rd.word
               case aB => exact Below.refl _ _
               case aS => exact X3.out.rd.size
               case aL => omega
               intro x1 w1 ho hb hg hat
               obtain ⟨A1, cp1, ex1, _, _⟩ := Kd.R_reads ho
               rw [List.length_append, List.length_singleton] at ex1
               subst ex1
               have Y := Aside0.mk (X3.out.grow ho hb hg hat)
               have f13 := blk_frozen (blk_grown X3.out.rd.blk hg (Kd.R_ne X3.out.rd.word X3.out.rd.blk (by decide))) 3
               have e13 : w1.cell? ⟨g, 3, none⟩ = some (.slice A s.word.length cp) := (blk_cell (blk_grown X3.out.rd.blk hg (Kd.R_ne X3.out.rd.word X3.out.rd.blk (by decide))) 3).trans rfl
               clear ho hb hg hat))
          go_ret
          first | exact ⟨_, rfl, Y.out⟩ | exact ⟨rfl, _, Y.out⟩
      · rw [if_neg (fun x => c2 x.1)]
        have d3 : (c == 13) = false := by simpa using c2
        go_wp2_with (first
          | ((with_reducible refine gate_callee (f := 100) rfl ?_)
             refine goesL_ (some 89) rfl rfl Tryd.func100 (by kernel_rfl) rfl #[.pointer (some ⟨g, 0, none⟩), .int .u8 c] rfl (by (try simp only [List.map_toArray, List.map_cons, List.map_nil]); first | done | rfl) ?_
             (with_reducible refine (version_calls base w g s (.slice A s.word.length cp) u1 c X.out.rd).mono ?_)
             rintro e w3 ⟨rfl, hd⟩
             have X3 := Aside0.mk (X.out.on hd)
             have g3 := blk_frozen X3.out.rd.blk 3
             have k3 : w3.cell? ⟨g, 3, none⟩ = some (.slice A s.word.length cp) := (blk_cell X3.out.rd.blk 3).trans rfl
             clear hd
             refine ⟨_, rfl, ?_⟩)
          | ((with_reducible refine gate_builtin (b := .append) (xs := #[.tmp 94, .tmp 96]) rfl ?_); at_builtin
             refine Kd.R_append (Kd.int .u8) (w0 := w3) base rfl (.tmp 94) (.tmp 96) 27 5 (.int .u8 0) 1 rfl Tryd.underlying27 info5 rfl (by decide) (by omega) (.slice A s.word.length cp) s.word c [.int .u8 c] (fun _ => True) (fun _ => False) rfl rfl ?aP (fun _ hk => hk.elim) (fun _ _ => trivial) ?aO ?aB ?aS ?aL ?_
             case aP => exact rfl
             case aO => exact X3.out.rd.word
             case aB => exact Below.refl _ _
             case aS => exact X3.out.rd.size
             case aL => omega
             intro x1 w1 ho hb hg hat
             obtain ⟨A1, cp1, ex1, _, _⟩ := Kd.R_reads ho
             rw [List.length_append, List.length_singleton] at ex1
             subst ex1
             have Y := Aside0.mk (X3.out.grow ho hb hg hat)
             have f13 := blk_frozen (blk_grown X3.out.rd.blk hg (Kd.R_ne X3.out.rd.word X3.out.rd.blk (by decide))) 3
             have e13 : w1.cell? ⟨g, 3, none⟩ = some (.slice A s.word.length cp) := (blk_cell (blk_grown X3.out.rd.blk hg (Kd.R_ne X3.out.rd.word X3.out.rd.blk (by decide))) 3).trans rfl
             clear ho hb hg hat))
        go_ret
        first | exact ⟨_, rfl, Y.out⟩ | exact ⟨rfl, _, Y.out⟩

end Go.Proofs.YtmmlacbcolfngaaDoor.Q
