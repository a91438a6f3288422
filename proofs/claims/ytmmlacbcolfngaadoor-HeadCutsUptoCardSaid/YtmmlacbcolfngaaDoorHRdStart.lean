/- A head's reader at its beginning, and whether it is done. By hand. -/
import Derived.Test.YtmmlacbcolfngaaDoorHRdBase
namespace Go.Proofs.YtmmlacbcolfngaaDoor.Q
open Go.RowKit Go.Proofs.YtmmlacbcolfngaaDoorW.PrintWords Go.Proofs.YtmmlacbcolfngaaDoorW.PrintLast Go.Proofs.YtmmlacbcolfngaaDoorW.PrintMore
attribute [local go_sem] max2_int min2_int max_two min_two max_three min_three max_four min_four
set_option linter.unusedVariables false
set_option linter.unusedSimpArgs false
set_option maxRecDepth 8000

/-- A new reader. -/
def RdSt.new (most : Int) (asks : Bool) (at_ : Int) : RdSt := ⟨asks, most, at_, [], 0, none, ⟨#[]⟩, ⟨#[]⟩, 0, 0, ⟨#[]⟩, 0, ⟨#[]⟩, []⟩

theorem start_bad (w : World) (most : Int) (asks : Bool) (at_ : Int) (hm : most < 1 ∨ most > 65536) :
    Calls Tryd.prog 74 #[.int .i64 most, .bool asks, .int .i64 at_] w fun e w' => e = .returned (.tuple #[.pointer none, errW (some 1)]) ∧ Below w.heap.size w w' := by
  go_enter Tryd.func74, Tryd.ntmps74
  by_cases c1 : most < 1
  · have d1 := decide_eq_true c1
    go_wp2
    go_ret2
    exact ⟨rfl, Below.refl _ _⟩
  · have d1 := decide_eq_false c1
    have d2 : decide (most > 65536) = true := decide_eq_true (by omega)
    go_wp2
    go_ret2
    exact ⟨rfl, Below.refl _ _⟩

theorem start_good (w : World) (most : Int) (asks : Bool) (at_ : Int) (hm : ¬(most < 1 ∨ most > 65536)) :
    Calls Tryd.prog 74 #[.int .i64 most, .bool asks, .int .i64 at_] w fun e w' => ∃ g, e = .returned (.tuple #[.pointer (some ⟨g, 0, none⟩), errW none]) ∧ Rd w.heap.size w' g (RdSt.new most asks at_) (.slice none 0 0) (.slice none 0 0) ∧ Below w.heap.size w w' := by
  have d1 : decide (most < 1) = false := decide_eq_false (by omega)
  have d2 : decide (most > 65536) = false := decide_eq_false (by omega)
  clear hm
  go_enter Tryd.func74, Tryd.ntmps74
  go_wp2
  go_ret2
  exact ⟨w.heap.size, rfl, ⟨blk_new w _, Kd.R_nil _ _ _ _ _, Kd.R_nil _ _ _ _ _, Nat.le_refl _, by simp⟩, below_alloc (Below.refl _ _) _⟩

theorem newRequest_bad (w : World) (most : Int) (hm : most < 1 ∨ most > 65536) :
    Calls Tryd.prog 52 #[.int .i64 most] w fun e w' => e = .returned (.tuple #[.pointer none, errW (some 1)]) ∧ Below w.heap.size w w' := by
  go_enter Tryd.func52, Tryd.ntmps52
  go_wp2_with (first
    | ((with_reducible refine gate_callee (f := 74) rfl ?_)
       refine goesL_ (some 5) rfl rfl Tryd.func74 (by kernel_rfl) rfl #[.int .i64 most, .bool true, .int .i64 0] rfl (by (try simp only [List.map_toArray, List.map_cons, List.map_nil]); first | done | rfl) ?_
       (with_reducible refine (start_bad _ most true 0 hm).mono ?_)
       rintro e w2 ⟨rfl, hd⟩
       have Z := Aside0.mk hd
       clear hd
       refine ⟨_, rfl, ?_⟩))
  go_ret2
  exact ⟨rfl, Z.out⟩

theorem newRequest_good (w : World) (most : Int) (hm : ¬(most < 1 ∨ most > 65536)) :
    Calls Tryd.prog 52 #[.int .i64 most] w fun e w' => ∃ g, e = .returned (.tuple #[.pointer (some ⟨g, 0, none⟩), errW none]) ∧ Rd w.heap.size w' g (RdSt.new most true 0) (.slice none 0 0) (.slice none 0 0) ∧ Below w.heap.size w w' := by
  go_enter Tryd.func52, Tryd.ntmps52
  go_wp2_with (first
    | ((with_reducible refine gate_callee (f := 74) rfl ?_)
       refine goesL_ (some 5) rfl rfl Tryd.func74 (by kernel_rfl) rfl #[.int .i64 most, .bool true, .int .i64 0] rfl (by (try simp only [List.map_toArray, List.map_cons, List.map_nil]); first | done | rfl) ?_
       (with_reducible refine (start_good _ most true 0 hm).mono ?_)
       rintro e w2 ⟨g, rfl, hr, hd⟩
       have Z := Aside0.mk (And.intro hr hd)
       clear hd hr
       refine ⟨_, rfl, ?_⟩))
  go_ret2
  exact ⟨g, rfl, Z.out.1, Z.out.2⟩

theorem newResponse_bad (w : World) (most : Int) (hm : most < 1 ∨ most > 65536) :
    Calls Tryd.prog 54 #[.int .i64 most] w fun e w' => e = .returned (.tuple #[.pointer none, errW (some 1)]) ∧ Below w.heap.size w w' := by
  go_enter Tryd.func54, Tryd.ntmps54
  go_wp2_with (first
    | ((with_reducible refine gate_callee (f := 74) rfl ?_)
       refine goesL_ (some 5) rfl rfl Tryd.func74 (by kernel_rfl) rfl #[.int .i64 most, .bool false, .int .i64 3] rfl (by (try simp only [List.map_toArray, List.map_cons, List.map_nil]); first | done | rfl) ?_
       (with_reducible refine (start_bad _ most false 3 hm).mono ?_)
       rintro e w2 ⟨rfl, hd⟩
       have Z := Aside0.mk hd
       clear hd
       refine ⟨_, rfl, ?_⟩))
  go_ret2
  exact ⟨rfl, Z.out⟩

theorem newResponse_good (w : World) (most : Int) (hm : ¬(most < 1 ∨ most > 65536)) :
    Calls Tryd.prog 54 #[.int .i64 most] w fun e w' => ∃ g, e = .returned (.tuple #[.pointer (some ⟨g, 0, none⟩), errW none]) ∧ Rd w.heap.size w' g (RdSt.new most false 3) (.slice none 0 0) (.slice none 0 0) ∧ Below w.heap.size w w' := by
  go_enter Tryd.func54, Tryd.ntmps54
  go_wp2_with (first
    | ((with_reducible refine gate_callee (f := 74) rfl ?_)
       refine goesL_ (some 5) rfl rfl Tryd.func74 (by kernel_rfl) rfl #[.int .i64 most, .bool false, .int .i64 3] rfl (by (try simp only [List.map_toArray, List.map_cons, List.map_nil]); first | done | rfl) ?_
       (with_reducible refine (start_good _ most false 3 hm).mono ?_)
       rintro e w2 ⟨g, rfl, hr, hd⟩
       have Z := Aside0.mk (And.intro hr hd)
       clear hd hr
       refine ⟨_, rfl, ?_⟩))
  go_ret2
  exact ⟨g, rfl, Z.out.1, Z.out.2⟩

section
variable {base : Nat} {W : World} {g : Nat} {s : RdSt} {v0 v1 : Value}
theorem Rd.c0 (h : Rd base W g s v0 v1) : W.cell? ⟨g, 0, none⟩ = some (.bool s.asks) := (blk_cell h.blk 0).trans rfl
theorem Rd.c1 (h : Rd base W g s v0 v1) : W.cell? ⟨g, 1, none⟩ = some (.int .i64 s.most) := (blk_cell h.blk 1).trans rfl
theorem Rd.c2 (h : Rd base W g s v0 v1) : W.cell? ⟨g, 2, none⟩ = some (.int .i64 s.at_) := (blk_cell h.blk 2).trans rfl
theorem Rd.c4 (h : Rd base W g s v0 v1) : W.cell? ⟨g, 4, none⟩ = some (.int .i64 s.len) := (blk_cell h.blk 4).trans rfl
theorem Rd.c5 (h : Rd base W g s v0 v1) : W.cell? ⟨g, 5, none⟩ = some (errW s.err) := (blk_cell h.blk 5).trans rfl
theorem Rd.c15 (h : Rd base W g s v0 v1) : W.cell? ⟨g, 15, none⟩ = some v1 := (blk_cell h.blk 15).trans rfl
end

/-- A whole head of a kind. -/
def RdSt.done (s : RdSt) (asks : Bool) : Bool := s.err.isNone && s.at_ == 11 && s.asks == asks

theorem done_calls (base : Nat) (w : World) (g : Nat) (s : RdSt) (u0 u1 : Value) (asks : Bool) (h : Rd base w g s u0 u1) :
    Calls Tryd.prog 61 #[.pointer (some ⟨g, 0, none⟩), .bool asks] w fun e w' => e = .returned (.bool (s.done asks)) ∧ Below w.heap.size w w' := by
  have k0 := h.c0
  have k2 := h.c2
  have k5 := h.c5
  have f0 := blk_frozen h.blk 0
  have f2 := blk_frozen h.blk 2
  have f5 := blk_frozen h.blk 5
  have X := Aside0.mk h
  clear h
  unfold RdSt.done
  go_enter Tryd.func61, Tryd.ntmps61
  cases he : s.err with
  | some x =>
    rw [he, errW_some] at k5
    clear he
    go_wp2
    go_ret
    exact ⟨rfl, Below.refl _ _⟩
  | none =>
    rw [he, errW_none] at k5
    clear he
    by_cases ha : s.at_ = 11
    · have da : (s.at_ == 11) = true := by simpa using ha
      rw [ha] at k2
      rw [da]
      clear ha da
      go_wp2
      go_ret
      exact ⟨rfl, Below.refl _ _⟩
    · have da : (s.at_ == 11) = false := by simpa using ha
      rw [da]
      clear ha
      go_wp2
      go_ret
      exact ⟨rfl, Below.refl _ _⟩

end Go.Proofs.YtmmlacbcolfngaaDoor.Q
