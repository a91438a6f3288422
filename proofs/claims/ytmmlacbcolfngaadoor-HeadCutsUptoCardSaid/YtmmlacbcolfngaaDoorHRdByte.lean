/- The method of a head's reader that reads a byte. By hand. -/
import Derived.Test.YtmmlacbcolfngaaDoorHRdStat
import Derived.Test.YtmmlacbcolfngaaDoorHRdField
import Derived.StillTactics
namespace Go.Proofs.YtmmlacbcolfngaaDoor.Q
open Go.RowKit Go.Proofs.YtmmlacbcolfngaaDoorW.PrintWords Go.Proofs.YtmmlacbcolfngaaDoorW.PrintLast Go.Proofs.YtmmlacbcolfngaaDoorW.PrintMore
attribute [local go_sem] max2_int min2_int max_two min_two max_three min_three max_four min_four
set_option linter.unusedVariables false
set_option linter.unusedSimpArgs false
set_option maxRecDepth 8000

/-- What is said of a byte behind its reading. -/
def judge (s2 : RdSt) (ok : Bool) (er : Int) : Option Int :=
  if s2.len > s2.most then some 22 else if ok = true then (if 64 < s2.field.length then some 22 else none) else some er

theorem requestLine_to (base : Nat) (w : World) (g : Nat) (s : RdSt) (u0 u1 : Value) (c : Int) (hc0 : 0 ≤ c) (hc1 : c ≤ 255) (hl : s.word.length ≤ 1000000) (hfl : s.field.length ≤ 1000000) (h : Rd base w g s u0 u1) (s2 : RdSt) (ok : Bool) (hR : s.reqLine c = (s2, ok)) :
    Calls Tryd.prog 82 #[.pointer (some ⟨g, 0, none⟩), .int .u8 c] w fun e w' => ∃ v0 v1, e = .returned (.bool ok) ∧ St base w g u0 u1 w' s2 v0 v1 := by
  have := requestLine_calls base w g s u0 u1 c hc0 hc1 hl h
  rw [hR] at this
  exact this.mono (fun e w' ⟨v0, he, hs⟩ => ⟨v0, u1, he, hs⟩)
theorem statusLine_to (base : Nat) (w : World) (g : Nat) (s : RdSt) (u0 u1 : Value) (c : Int) (hc0 : 0 ≤ c) (hc1 : c ≤ 255) (hl : s.word.length ≤ 1000000) (hfl : s.field.length ≤ 1000000) (h : Rd base w g s u0 u1) (s2 : RdSt) (ok : Bool) (hR : s.statLine c = (s2, ok)) :
    Calls Tryd.prog 83 #[.pointer (some ⟨g, 0, none⟩), .int .u8 c] w fun e w' => ∃ v0 v1, e = .returned (.bool ok) ∧ St base w g u0 u1 w' s2 v0 v1 := by
  have := statusLine_calls base w g s u0 u1 c hc0 hc1 hl h
  rw [hR] at this
  exact this.mono (fun e w' ⟨v0, he, hs⟩ => ⟨v0, u1, he, hs⟩)
theorem fieldLine_to (base : Nat) (w : World) (g : Nat) (s : RdSt) (u0 u1 : Value) (c : Int) (hc0 : 0 ≤ c) (hc1 : c ≤ 255) (hl : s.word.length ≤ 1000000) (hfl : s.field.length ≤ 1000000) (h : Rd base w g s u0 u1) (s2 : RdSt) (ok : Bool) (hR : s.fldLine c = (s2, ok)) :
    Calls Tryd.prog 81 #[.pointer (some ⟨g, 0, none⟩), .int .u8 c] w fun e w' => ∃ v0 v1, e = .returned (.bool ok) ∧ St base w g u0 u1 w' s2 v0 v1 := by
  have := fieldLine_calls base w g s u0 u1 c hc0 hc1 hl hfl h
  rw [hR] at this
  exact this

set_option maxHeartbeats 3200000 in
theorem byteQ (base : Nat) (w : World) (g : Nat) (s : RdSt) (u0 u1 : Value) (c : Int) (hc0 : 0 ≤ c) (hc1 : c ≤ 255) (hl : s.word.length ≤ 1000000) (hfl : s.field.length ≤ 1000000) (hn0 : 0 ≤ s.len) (hn1 : s.len ≤ 1000000) (h : Rd base w g s u0 u1)
    (c6 : ¬s.at_ = 6) (c7 : ¬s.at_ ≥ 7) (ca : s.asks = true) (s2 : RdSt) (ok : Bool) (hr : ({s with len := s.len + 1} : RdSt).reqLine c = (s2, ok)) :
    Calls Tryd.prog 60 #[.pointer (some ⟨g, 0, none⟩), .int .u8 c] w fun e w' => ∃ v0 v1, e = .returned (errW (judge s2 ok 20)) ∧ St base w g u0 u1 w' s2 v0 v1 := by
  have hR := Aside0.mk hr
  clear hr
  obtain ⟨A', cp', rfl, hcl', _⟩ := Kd.R_reads h.field
  have e0 : w.cell? ⟨g, 0, none⟩ = some (.bool s.asks) := (blk_cell h.blk 0).trans rfl
  have e1 : w.cell? ⟨g, 1, none⟩ = some (.int .i64 s.most) := (blk_cell h.blk 1).trans rfl
  have e2 : w.cell? ⟨g, 2, none⟩ = some (.int .i64 s.at_) := (blk_cell h.blk 2).trans rfl
  have e4 : w.cell? ⟨g, 4, none⟩ = some (.int .i64 s.len) := (blk_cell h.blk 4).trans rfl
  have e15 : w.cell? ⟨g, 15, none⟩ = some (.slice A' s.field.length cp') := (blk_cell h.blk 15).trans rfl
  have f0 := blk_frozen h.blk 0
  have f1 := blk_frozen h.blk 1
  have f2 := blk_frozen h.blk 2
  have f4 := blk_frozen h.blk 4
  have f15 := blk_frozen h.blk 15
  have X := Aside0.mk h.st
  have X1 := Aside0.mk (h.st.put 4 (.int .i64 (s.len + 1)) (s' := {s with len := s.len + 1}) rfl rfl rfl)
  have hw : wrap64 (s.len + 1) = s.len + 1 := by unfold wrap64; omega
  clear h
  go_enter Tryd.func60, Tryd.ntmps60
  rw [ca] at e0
  have d6 : (s.at_ == 6) = false := by simpa using c6
  have d7 : decide (s.at_ ≥ 7) = false := decide_eq_false c7
  unfold judge
  by_cases hL : s2.len > s2.most
  · rw [if_pos hL]
    have dL := decide_eq_true hL
    cases ok with
    | true =>
      go_wp2_with (first
        | ((with_reducible refine gate_callee (f := 82) rfl ?_)
           refine goesL_ (some 44) rfl rfl Tryd.func82 (by kernel_rfl) rfl #[.pointer (some ⟨g, 0, none⟩), .int .u8 c] rfl (by (try simp only [List.map_toArray, List.map_cons, List.map_nil]); first | done | rfl) ?_
           (with_reducible refine (requestLine_to base _ g {s with len := s.len + 1} _ (.slice A' s.field.length cp') c hc0 hc1 hl hfl X1.out.rd s2 true hR.out).mono ?_)
           rintro e w3 ⟨x3, y3, rfl, hd⟩
           have Z := Aside0.mk (X1.out.trans hd)
           obtain ⟨A3, cp3, ey3, hcl3, _⟩ := Kd.R_reads hd.rd.field
           subst ey3
           have k1 : w3.cell? ⟨g, 1, none⟩ = some (.int .i64 s2.most) := (blk_cell hd.rd.blk 1).trans rfl
           have k4 : w3.cell? ⟨g, 4, none⟩ = some (.int .i64 s2.len) := (blk_cell hd.rd.blk 4).trans rfl
           have k15 : w3.cell? ⟨g, 15, none⟩ = some (.slice A3 s2.field.length cp3) := (blk_cell hd.rd.blk 15).trans rfl
           have g1 := blk_frozen hd.rd.blk 1
           have g4 := blk_frozen hd.rd.blk 4
           have g15 := blk_frozen hd.rd.blk 15
           clear hd
           refine ⟨_, rfl, ?_⟩))
      go_still (by kernel_rfl)
      go_wp2
      go_ret
      first | exact ⟨_, _, rfl, Z.out.drew⟩ | exact ⟨rfl, _, _, Z.out.drew⟩
    | false =>
      go_wp2_with (first
        | ((with_reducible refine gate_callee (f := 82) rfl ?_)
           refine goesL_ (some 44) rfl rfl Tryd.func82 (by kernel_rfl) rfl #[.pointer (some ⟨g, 0, none⟩), .int .u8 c] rfl (by (try simp only [List.map_toArray, List.map_cons, List.map_nil]); first | done | rfl) ?_
           (with_reducible refine (requestLine_to base _ g {s with len := s.len + 1} _ (.slice A' s.field.length cp') c hc0 hc1 hl hfl X1.out.rd s2 false hR.out).mono ?_)
           rintro e w3 ⟨x3, y3, rfl, hd⟩
           have Z := Aside0.mk (X1.out.trans hd)
           obtain ⟨A3, cp3, ey3, hcl3, _⟩ := Kd.R_reads hd.rd.field
           subst ey3
           have k1 : w3.cell? ⟨g, 1, none⟩ = some (.int .i64 s2.most) := (blk_cell hd.rd.blk 1).trans rfl
           have k4 : w3.cell? ⟨g, 4, none⟩ = some (.int .i64 s2.len) := (blk_cell hd.rd.blk 4).trans rfl
           have k15 : w3.cell? ⟨g, 15, none⟩ = some (.slice A3 s2.field.length cp3) := (blk_cell hd.rd.blk 15).trans rfl
           have g1 := blk_frozen hd.rd.blk 1
           have g4 := blk_frozen hd.rd.blk 4
           have g15 := blk_frozen hd.rd.blk 15
           clear hd
           refine ⟨_, rfl, ?_⟩))
      go_still (by kernel_rfl)
      go_wp2
      go_ret
      first | exact ⟨_, _, rfl, Z.out.drew⟩ | exact ⟨rfl, _, _, Z.out.drew⟩
  · rw [if_neg hL]
    have dL := decide_eq_false hL
    cases ok with
    | true =>
      rw [if_pos rfl]
      by_cases hF : 64 < s2.field.length
      · rw [if_pos hF]
        have dF : decide ((s2.field.length : Int) > 64) = true := decide_eq_true (by omega)
        go_wp2_with (first
          | ((with_reducible refine gate_callee (f := 82) rfl ?_)
             refine goesL_ (some 44) rfl rfl Tryd.func82 (by kernel_rfl) rfl #[.pointer (some ⟨g, 0, none⟩), .int .u8 c] rfl (by (try simp only [List.map_toArray, List.map_cons, List.map_nil]); first | done | rfl) ?_
             (with_reducible refine (requestLine_to base _ g {s with len := s.len + 1} _ (.slice A' s.field.length cp') c hc0 hc1 hl hfl X1.out.rd s2 true hR.out).mono ?_)
             rintro e w3 ⟨x3, y3, rfl, hd⟩
             have Z := Aside0.mk (X1.out.trans hd)
             obtain ⟨A3, cp3, ey3, hcl3, _⟩ := Kd.R_reads hd.rd.field
             subst ey3
             have k1 : w3.cell? ⟨g, 1, none⟩ = some (.int .i64 s2.most) := (blk_cell hd.rd.blk 1).trans rfl
             have k4 : w3.cell? ⟨g, 4, none⟩ = some (.int .i64 s2.len) := (blk_cell hd.rd.blk 4).trans rfl
             have k15 : w3.cell? ⟨g, 15, none⟩ = some (.slice A3 s2.field.length cp3) := (blk_cell hd.rd.blk 15).trans rfl
             have g1 := blk_frozen hd.rd.blk 1
             have g4 := blk_frozen hd.rd.blk 4
             have g15 := blk_frozen hd.rd.blk 15
             clear hd
             refine ⟨_, rfl, ?_⟩))
        go_still (by kernel_rfl)
        go_wp2
        go_ret
        first | exact ⟨_, _, rfl, Z.out.drew⟩ | exact ⟨rfl, _, _, Z.out.drew⟩
      · rw [if_neg hF]
        have dF : decide ((s2.field.length : Int) > 64) = false := decide_eq_false (by omega)
        go_wp2_with (first
          | ((with_reducible refine gate_callee (f := 82) rfl ?_)
             refine goesL_ (some 44) rfl rfl Tryd.func82 (by kernel_rfl) rfl #[.pointer (some ⟨g, 0, none⟩), .int .u8 c] rfl (by (try simp only [List.map_toArray, List.map_cons, List.map_nil]); first | done | rfl) ?_
             (with_reducible refine (requestLine_to base _ g {s with len := s.len + 1} _ (.slice A' s.field.length cp') c hc0 hc1 hl hfl X1.out.rd s2 true hR.out).mono ?_)
             rintro e w3 ⟨x3, y3, rfl, hd⟩
             have Z := Aside0.mk (X1.out.trans hd)
             obtain ⟨A3, cp3, ey3, hcl3, _⟩ := Kd.R_reads hd.rd.field
             subst ey3
             have k1 : w3.cell? ⟨g, 1, none⟩ = some (.int .i64 s2.most) := (blk_cell hd.rd.blk 1).trans rfl
             have k4 : w3.cell? ⟨g, 4, none⟩ = some (.int .i64 s2.len) := (blk_cell hd.rd.blk 4).trans rfl
             have k15 : w3.cell? ⟨g, 15, none⟩ = some (.slice A3 s2.field.length cp3) := (blk_cell hd.rd.blk 15).trans rfl
             have g1 := blk_frozen hd.rd.blk 1
             have g4 := blk_frozen hd.rd.blk 4
             have g15 := blk_frozen hd.rd.blk 15
             clear hd
             refine ⟨_, rfl, ?_⟩))
        go_still (by kernel_rfl)
        go_wp2
        go_ret
        first | exact ⟨_, _, rfl, Z.out.drew⟩ | exact ⟨rfl, _, _, Z.out.drew⟩
    | false =>
      rw [if_neg (by decide)]
      go_wp2_with (first
        | ((with_reducible refine gate_callee (f := 82) rfl ?_)
           refine goesL_ (some 44) rfl rfl Tryd.func82 (by kernel_rfl) rfl #[.pointer (some ⟨g, 0, none⟩), .int .u8 c] rfl (by (try simp only [List.map_toArray, List.map_cons, List.map_nil]); first | done | rfl) ?_
           (with_reducible refine (requestLine_to base _ g {s with len := s.len + 1} _ (.slice A' s.field.length cp') c hc0 hc1 hl hfl X1.out.rd s2 false hR.out).mono ?_)
           rintro e w3 ⟨x3, y3, rfl, hd⟩
           have Z := Aside0.mk (X1.out.trans hd)
           obtain ⟨A3, cp3, ey3, hcl3, _⟩ := Kd.R_reads hd.rd.field
           subst ey3
           have k1 : w3.cell? ⟨g, 1, none⟩ = some (.int .i64 s2.most) := (blk_cell hd.rd.blk 1).trans rfl
           have k4 : w3.cell? ⟨g, 4, none⟩ = some (.int .i64 s2.len) := (blk_cell hd.rd.blk 4).trans rfl
           have k15 : w3.cell? ⟨g, 15, none⟩ = some (.slice A3 s2.field.length cp3) := (blk_cell hd.rd.blk 15).trans rfl
           have g1 := blk_frozen hd.rd.blk 1
           have g4 := blk_frozen hd.rd.blk 4
           have g15 := blk_frozen hd.rd.blk 15
           clear hd
           refine ⟨_, rfl, ?_⟩))
      go_still (by kernel_rfl)
      go_wp2
      go_ret
      first | exact ⟨_, _, rfl, Z.out.drew⟩ | exact ⟨rfl, _, _, Z.out.drew⟩

set_option maxHeartbeats 3200000 in
theorem byteF (base : Nat) (w : World) (g : Nat) (s : RdSt) (u0 u1 : Value) (c : Int) (hc0 : 0 ≤ c) (hc1 : c ≤ 255) (hl : s.word.length ≤ 1000000) (hfl : s.field.length ≤ 1000000) (hn0 : 0 ≤ s.len) (hn1 : s.len ≤ 1000000) (h : Rd base w g s u0 u1)
    (c6 : ¬s.at_ = 6) (c7 : s.at_ ≥ 7) (s2 : RdSt) (ok : Bool) (hr : ({s with len := s.len + 1} : RdSt).fldLine c = (s2, ok)) :
    Calls Tryd.prog 60 #[.pointer (some ⟨g, 0, none⟩), .int .u8 c] w fun e w' => ∃ v0 v1, e = .returned (errW (judge s2 ok 21)) ∧ St base w g u0 u1 w' s2 v0 v1 := by
  have hR := Aside0.mk hr
  clear hr
  obtain ⟨A', cp', rfl, hcl', _⟩ := Kd.R_reads h.field
  have e0 : w.cell? ⟨g, 0, none⟩ = some (.bool s.asks) := (blk_cell h.blk 0).trans rfl
  have e1 : w.cell? ⟨g, 1, none⟩ = some (.int .i64 s.most) := (blk_cell h.blk 1).trans rfl
  have e2 : w.cell? ⟨g, 2, none⟩ = some (.int .i64 s.at_) := (blk_cell h.blk 2).trans rfl
  have e4 : w.cell? ⟨g, 4, none⟩ = some (.int .i64 s.len) := (blk_cell h.blk 4).trans rfl
  have e15 : w.cell? ⟨g, 15, none⟩ = some (.slice A' s.field.length cp') := (blk_cell h.blk 15).trans rfl
  have f0 := blk_frozen h.blk 0
  have f1 := blk_frozen h.blk 1
  have f2 := blk_frozen h.blk 2
  have f4 := blk_frozen h.blk 4
  have f15 := blk_frozen h.blk 15
  have X := Aside0.mk h.st
  have X1 := Aside0.mk (h.st.put 4 (.int .i64 (s.len + 1)) (s' := {s with len := s.len + 1}) rfl rfl rfl)
  have hw : wrap64 (s.len + 1) = s.len + 1 := by unfold wrap64; omega
  clear h
  go_enter Tryd.func60, Tryd.ntmps60
  have d6 : (s.at_ == 6) = false := by simpa using c6
  have d7 : decide (s.at_ ≥ 7) = true := decide_eq_true c7
  unfold judge
  by_cases hL : s2.len > s2.most
  · rw [if_pos hL]
    have dL := decide_eq_true hL
    cases ok with
    | true =>
      go_wp2_with (first
        | ((with_reducible refine gate_callee (f := 81) rfl ?_)
           refine goesL_ (some 36) rfl rfl Tryd.func81 (by kernel_rfl) rfl #[.pointer (some ⟨g, 0, none⟩), .int .u8 c] rfl (by (try simp only [List.map_toArray, List.map_cons, List.map_nil]); first | done | rfl) ?_
           (with_reducible refine (fieldLine_to base _ g {s with len := s.len + 1} _ (.slice A' s.field.length cp') c hc0 hc1 hl hfl X1.out.rd s2 true hR.out).mono ?_)
           rintro e w3 ⟨x3, y3, rfl, hd⟩
           have Z := Aside0.mk (X1.out.trans hd)
           obtain ⟨A3, cp3, ey3, hcl3, _⟩ := Kd.R_reads hd.rd.field
           subst ey3
           have k1 : w3.cell? ⟨g, 1, none⟩ = some (.int .i64 s2.most) := (blk_cell hd.rd.blk 1).trans rfl
           have k4 : w3.cell? ⟨g, 4, none⟩ = some (.int .i64 s2.len) := (blk_cell hd.rd.blk 4).trans rfl
           have k15 : w3.cell? ⟨g, 15, none⟩ = some (.slice A3 s2.field.length cp3) := (blk_cell hd.rd.blk 15).trans rfl
           have g1 := blk_frozen hd.rd.blk 1
           have g4 := blk_frozen hd.rd.blk 4
           have g15 := blk_frozen hd.rd.blk 15
           clear hd
           refine ⟨_, rfl, ?_⟩))
      go_still (by kernel_rfl)
      go_wp2
      go_ret
      first | exact ⟨_, _, rfl, Z.out.drew⟩ | exact ⟨rfl, _, _, Z.out.drew⟩
    | false =>
      go_wp2_with (first
        | ((with_reducible refine gate_callee (f := 81) rfl ?_)
           refine goesL_ (some 36) rfl rfl Tryd.func81 (by kernel_rfl) rfl #[.pointer (some ⟨g, 0, none⟩), .int .u8 c] rfl (by (try simp only [List.map_toArray, List.map_cons, List.map_nil]); first | done | rfl) ?_
           (with_reducible refine (fieldLine_to base _ g {s with len := s.len + 1} _ (.slice A' s.field.length cp') c hc0 hc1 hl hfl X1.out.rd s2 false hR.out).mono ?_)
           rintro e w3 ⟨x3, y3, rfl, hd⟩
           have Z := Aside0.mk (X1.out.trans hd)
           obtain ⟨A3, cp3, ey3, hcl3, _⟩ := Kd.R_reads hd.rd.field
           subst ey3
           have k1 : w3.cell? ⟨g, 1, none⟩ = some (.int .i64 s2.most) := (blk_cell hd.rd.blk 1).trans rfl
           have k4 : w3.cell? ⟨g, 4, none⟩ = some (.int .i64 s2.len) := (blk_cell hd.rd.blk 4).trans rfl
           have k15 : w3.cell? ⟨g, 15, none⟩ = some (.slice A3 s2.field.length cp3) := (blk_cell hd.rd.blk 15).trans rfl
           have g1 := blk_frozen hd.rd.blk 1
           have g4 := blk_frozen hd.rd.blk 4
           have g15 := blk_frozen hd.rd.blk 15
           clear hd
           refine ⟨_, rfl, ?_⟩))
      go_still (by kernel_rfl)
      go_wp2
      go_ret
      first | exact ⟨_, _, rfl, Z.out.drew⟩ | exact ⟨rfl, _, _, Z.out.drew⟩
  · rw [if_neg hL]
    have dL := decide_eq_false hL
    cases ok with
    | true =>
      rw [if_pos rfl]
      by_cases hF : 64 < s2.field.length
      · rw [if_pos hF]
        have dF : decide ((s2.field.length : Int) > 64) = true := decide_eq_true (by omega)
        go_wp2_with (first
          | ((with_reducible refine gate_callee (f := 81) rfl ?_)
             refine goesL_ (some 36) rfl rfl Tryd.func81 (by kernel_rfl) rfl #[.pointer (some ⟨g, 0, none⟩), .int .u8 c] rfl (by (try simp only [List.map_toArray, List.map_cons, List.map_nil]); first | done | rfl) ?_
             (with_reducible refine (fieldLine_to base _ g {s with len := s.len + 1} _ (.slice A' s.field.length cp') c hc0 hc1 hl hfl X1.out.rd s2 true hR.out).mono ?_)
             rintro e w3 ⟨x3, y3, rfl, hd⟩
             have Z := Aside0.mk (X1.out.trans hd)
             obtain ⟨A3, cp3, ey3, hcl3, _⟩ := Kd.R_reads hd.rd.field
             subst ey3
             have k1 : w3.cell? ⟨g, 1, none⟩ = some (.int .i64 s2.most) := (blk_cell hd.rd.blk 1).trans rfl
             have k4 : w3.cell? ⟨g, 4, none⟩ = some (.int .i64 s2.len) := (blk_cell hd.rd.blk 4).trans rfl
             have k15 : w3.cell? ⟨g, 15, none⟩ = some (.slice A3 s2.field.length cp3) := (blk_cell hd.rd.blk 15).trans rfl
             have g1 := blk_frozen hd.rd.blk 1
             have g4 := blk_frozen hd.rd.blk 4
             have g15 := blk_frozen hd.rd.blk 15
             clear hd
             refine ⟨_, rfl, ?_⟩))
        go_still (by kernel_rfl)
        go_wp2
        go_ret
        first | exact ⟨_, _, rfl, Z.out.drew⟩ | exact ⟨rfl, _, _, Z.out.drew⟩
      · rw [if_neg hF]
        have dF : decide ((s2.field.length : Int) > 64) = false := decide_eq_false (by omega)
        go_wp2_with (first
          | ((with_reducible refine gate_callee (f := 81) rfl ?_)
             refine goesL_ (some 36) rfl rfl Tryd.func81 (by kernel_rfl) rfl #[.pointer (some ⟨g, 0, none⟩), .int .u8 c] rfl (by (try simp only [List.map_toArray, List.map_cons, List.map_nil]); first | done | rfl) ?_
             (with_reducible refine (fieldLine_to base _ g {s with len := s.len + 1} _ (.slice A' s.field.length cp') c hc0 hc1 hl hfl X1.out.rd s2 true hR.out).mono ?_)
             rintro e w3 ⟨x3, y3, rfl, hd⟩
             have Z := Aside0.mk (X1.out.trans hd)
             obtain ⟨A3, cp3, ey3, hcl3, _⟩ := Kd.R_reads hd.rd.field
             subst ey3
             have k1 : w3.cell? ⟨g, 1, none⟩ = some (.int .i64 s2.most) := (blk_cell hd.rd.blk 1).trans rfl
             have k4 : w3.cell? ⟨g, 4, none⟩ = some (.int .i64 s2.len) := (blk_cell hd.rd.blk 4).trans rfl
             have k15 : w3.cell? ⟨g, 15, none⟩ = some (.slice A3 s2.field.length cp3) := (blk_cell hd.rd.blk 15).trans rfl
             have g1 := blk_frozen hd.rd.blk 1
             have g4 := blk_frozen hd.rd.blk 4
             have g15 := blk_frozen hd.rd.blk 15
             clear hd
             refine ⟨_, rfl, ?_⟩))
        go_still (by kernel_rfl)
        go_wp2
        go_ret
        first | exact ⟨_, _, rfl, Z.out.drew⟩ | exact ⟨rfl, _, _, Z.out.drew⟩
    | false =>
      rw [if_neg (by decide)]
      go_wp2_with (first
        | ((with_reducible refine gate_callee (f := 81) rfl ?_)
           refine goesL_ (some 36) rfl rfl Tryd.func81 (by kernel_rfl) rfl #[.pointer (some ⟨g, 0, none⟩), .int .u8 c] rfl (by (try simp only [List.map_toArray, List.map_cons, List.map_nil]); first | done | rfl) ?_
           (with_reducible refine (fieldLine_to base _ g {s with len := s.len + 1} _ (.slice A' s.field.length cp') c hc0 hc1 hl hfl X1.out.rd s2 false hR.out).mono ?_)
           rintro e w3 ⟨x3, y3, rfl, hd⟩
           have Z := Aside0.mk (X1.out.trans hd)
           obtain ⟨A3, cp3, ey3, hcl3, _⟩ := Kd.R_reads hd.rd.field
           subst ey3
           have k1 : w3.cell? ⟨g, 1, none⟩ = some (.int .i64 s2.most) := (blk_cell hd.rd.blk 1).trans rfl
           have k4 : w3.cell? ⟨g, 4, none⟩ = some (.int .i64 s2.len) := (blk_cell hd.rd.blk 4).trans rfl
           have k15 : w3.cell? ⟨g, 15, none⟩ = some (.slice A3 s2.field.length cp3) := (blk_cell hd.rd.blk 15).trans rfl
           have g1 := blk_frozen hd.rd.blk 1
           have g4 := blk_frozen hd.rd.blk 4
           have g15 := blk_frozen hd.rd.blk 15
           clear hd
           refine ⟨_, rfl, ?_⟩))
      go_still (by kernel_rfl)
      go_wp2
      go_ret
      first | exact ⟨_, _, rfl, Z.out.drew⟩ | exact ⟨rfl, _, _, Z.out.drew⟩

set_option maxHeartbeats 3200000 in
theorem byteP (base : Nat) (w : World) (g : Nat) (s : RdSt) (u0 u1 : Value) (c : Int) (hc0 : 0 ≤ c) (hc1 : c ≤ 255) (hl : s.word.length ≤ 1000000) (hfl : s.field.length ≤ 1000000) (hn0 : 0 ≤ s.len) (hn1 : s.len ≤ 1000000) (h : Rd base w g s u0 u1)
    (c6 : ¬s.at_ = 6) (c7 : ¬s.at_ ≥ 7) (ca : s.asks = false) (s2 : RdSt) (ok : Bool) (hr : ({s with len := s.len + 1} : RdSt).statLine c = (s2, ok)) :
    Calls Tryd.prog 60 #[.pointer (some ⟨g, 0, none⟩), .int .u8 c] w fun e w' => ∃ v0 v1, e = .returned (errW (judge s2 ok 20)) ∧ St base w g u0 u1 w' s2 v0 v1 := by
  have hR := Aside0.mk hr
  clear hr
  obtain ⟨A', cp', rfl, hcl', _⟩ := Kd.R_reads h.field
  have e0 : w.cell? ⟨g, 0, none⟩ = some (.bool s.asks) := (blk_cell h.blk 0).trans rfl
  have e1 : w.cell? ⟨g, 1, none⟩ = some (.int .i64 s.most) := (blk_cell h.blk 1).trans rfl
  have e2 : w.cell? ⟨g, 2, none⟩ = some (.int .i64 s.at_) := (blk_cell h.blk 2).trans rfl
  have e4 : w.cell? ⟨g, 4, none⟩ = some (.int .i64 s.len) := (blk_cell h.blk 4).trans rfl
  have e15 : w.cell? ⟨g, 15, none⟩ = some (.slice A' s.field.length cp') := (blk_cell h.blk 15).trans rfl
  have f0 := blk_frozen h.blk 0
  have f1 := blk_frozen h.blk 1
  have f2 := blk_frozen h.blk 2
  have f4 := blk_frozen h.blk 4
  have f15 := blk_frozen h.blk 15
  have X := Aside0.mk h.st
  have X1 := Aside0.mk (h.st.put 4 (.int .i64 (s.len + 1)) (s' := {s with len := s.len + 1}) rfl rfl rfl)
  have hw : wrap64 (s.len + 1) = s.len + 1 := by unfold wrap64; omega
  clear h
  go_enter Tryd.func60, Tryd.ntmps60
  rw [ca] at e0
  have d6 : (s.at_ == 6) = false := by simpa using c6
  have d7 : decide (s.at_ ≥ 7) = false := decide_eq_false c7
  unfold judge
  by_cases hL : s2.len > s2.most
  · rw [if_pos hL]
    have dL := decide_eq_true hL
    cases ok with
    | true =>
      go_wp2_with (first
        | ((with_reducible refine gate_callee (f := 83) rfl ?_)
           refine goesL_ (some 16) rfl rfl Tryd.func83 (by kernel_rfl) rfl #[.pointer (some ⟨g, 0, none⟩), .int .u8 c] rfl (by (try simp only [List.map_toArray, List.map_cons, List.map_nil]); first | done | rfl) ?_
           (with_reducible refine (statusLine_to base _ g {s with len := s.len + 1} _ (.slice A' s.field.length cp') c hc0 hc1 hl hfl X1.out.rd s2 true hR.out).mono ?_)
           rintro e w3 ⟨x3, y3, rfl, hd⟩
           have Z := Aside0.mk (X1.out.trans hd)
           obtain ⟨A3, cp3, ey3, hcl3, _⟩ := Kd.R_reads hd.rd.field
           subst ey3
           have k1 : w3.cell? ⟨g, 1, none⟩ = some (.int .i64 s2.most) := (blk_cell hd.rd.blk 1).trans rfl
           have k4 : w3.cell? ⟨g, 4, none⟩ = some (.int .i64 s2.len) := (blk_cell hd.rd.blk 4).trans rfl
           have k15 : w3.cell? ⟨g, 15, none⟩ = some (.slice A3 s2.field.length cp3) := (blk_cell hd.rd.blk 15).trans rfl
           have g1 := blk_frozen hd.rd.blk 1
           have g4 := blk_frozen hd.rd.blk 4
           have g15 := blk_frozen hd.rd.blk 15
           clear hd
           refine ⟨_, rfl, ?_⟩))
      go_still (by kernel_rfl)
      go_wp2
      go_ret
      first | exact ⟨_, _, rfl, Z.out.drew⟩ | exact ⟨rfl, _, _, Z.out.drew⟩
    | false =>
      go_wp2_with (first
        | ((with_reducible refine gate_callee (f := 83) rfl ?_)
           refine goesL_ (some 16) rfl rfl Tryd.func83 (by kernel_rfl) rfl #[.pointer (some ⟨g, 0, none⟩), .int .u8 c] rfl (by (try simp only [List.map_toArray, List.map_cons, List.map_nil]); first | done | rfl) ?_
           (with_reducible refine (statusLine_to base _ g {s with len := s.len + 1} _ (.slice A' s.field.length cp') c hc0 hc1 hl hfl X1.out.rd s2 false hR.out).mono ?_)
           rintro e w3 ⟨x3, y3, rfl, hd⟩
           have Z := Aside0.mk (X1.out.trans hd)
           obtain ⟨A3, cp3, ey3, hcl3, _⟩ := Kd.R_reads hd.rd.field
           subst ey3
           have k1 : w3.cell? ⟨g, 1, none⟩ = some (.int .i64 s2.most) := (blk_cell hd.rd.blk 1).trans rfl
           have k4 : w3.cell? ⟨g, 4, none⟩ = some (.int .i64 s2.len) := (blk_cell hd.rd.blk 4).trans rfl
           have k15 : w3.cell? ⟨g, 15, none⟩ = some (.slice A3 s2.field.length cp3) := (blk_cell hd.rd.blk 15).trans rfl
           have g1 := blk_frozen hd.rd.blk 1
           have g4 := blk_frozen hd.rd.blk 4
           have g15 := blk_frozen hd.rd.blk 15
           clear hd
           refine ⟨_, rfl, ?_⟩))
      go_still (by kernel_rfl)
      go_wp2
      go_ret
      first | exact ⟨_, _, rfl, Z.out.drew⟩ | exact ⟨rfl, _, _, Z.out.drew⟩
  · rw [if_neg hL]
    have dL := decide_eq_false hL
    cases ok with
    | true =>
      rw [if_pos rfl]
      by_cases hF : 64 < s2.field.length
      · rw [if_pos hF]
        have dF : decide ((s2.field.length : Int) > 64) = true := decide_eq_true (by omega)
        go_wp2_with (first
          | ((with_reducible refine gate_callee (f := 83) rfl ?_)
             refine goesL_ (some 16) rfl rfl Tryd.func83 (by kernel_rfl) rfl #[.pointer (some ⟨g, 0, none⟩), .int .u8 c] rfl (by (try simp only [List.map_toArray, List.map_cons, List.map_nil]); first | done | rfl) ?_
             (with_reducible refine (statusLine_to base _ g {s with len := s.len + 1} _ (.slice A' s.field.length cp') c hc0 hc1 hl hfl X1.out.rd s2 true hR.out).mono ?_)
             rintro e w3 ⟨x3, y3, rfl, hd⟩
             have Z := Aside0.mk (X1.out.trans hd)
             obtain ⟨A3, cp3, ey3, hcl3, _⟩ := Kd.R_reads hd.rd.field
             subst ey3
             have k1 : w3.cell? ⟨g, 1, none⟩ = some (.int .i64 s2.most) := (blk_cell hd.rd.blk 1).trans rfl
             have k4 : w3.cell? ⟨g, 4, none⟩ = some (.int .i64 s2.len) := (blk_cell hd.rd.blk 4).trans rfl
             have k15 : w3.cell? ⟨g, 15, none⟩ = some (.slice A3 s2.field.length cp3) := (blk_cell hd.rd.blk 15).trans rfl
             have g1 := blk_frozen hd.rd.blk 1
             have g4 := blk_frozen hd.rd.blk 4
             have g15 := blk_frozen hd.rd.blk 15
             clear hd
             refine ⟨_, rfl, ?_⟩))
        go_still (by kernel_rfl)
        go_wp2
        go_ret
        first | exact ⟨_, _, rfl, Z.out.drew⟩ | exact ⟨rfl, _, _, Z.out.drew⟩
      · rw [if_neg hF]
        have dF : decide ((s2.field.length : Int) > 64) = false := decide_eq_false (by omega)
        go_wp2_with (first
          | ((with_reducible refine gate_callee (f := 83) rfl ?_)
             refine goesL_ (some 16) rfl rfl Tryd.func83 (by kernel_rfl) rfl #[.pointer (some ⟨g, 0, none⟩), .int .u8 c] rfl (by (try simp only [List.map_toArray, List.map_cons, List.map_nil]); first | done | rfl) ?_
             (with_reducible refine (statusLine_to base _ g {s with len := s.len + 1} _ (.slice A' s.field.length cp') c hc0 hc1 hl hfl X1.out.rd s2 true hR.out).mono ?_)
             rintro e w3 ⟨x3, y3, rfl, hd⟩
             have Z := Aside0.mk (X1.out.trans hd)
             obtain ⟨A3, cp3, ey3, hcl3, _⟩ := Kd.R_reads hd.rd.field
             subst ey3
             have k1 : w3.cell? ⟨g, 1, none⟩ = some (.int .i64 s2.most) := (blk_cell hd.rd.blk 1).trans rfl
             have k4 : w3.cell? ⟨g, 4, none⟩ = some (.int .i64 s2.len) := (blk_cell hd.rd.blk 4).trans rfl
             have k15 : w3.cell? ⟨g, 15, none⟩ = some (.slice A3 s2.field.length cp3) := (blk_cell hd.rd.blk 15).trans rfl
             have g1 := blk_frozen hd.rd.blk 1
             have g4 := blk_frozen hd.rd.blk 4
             have g15 := blk_frozen hd.rd.blk 15
             clear hd
             refine ⟨_, rfl, ?_⟩))
        go_still (by kernel_rfl)
        go_wp2
        go_ret
        first | exact ⟨_, _, rfl, Z.out.drew⟩ | exact ⟨rfl, _, _, Z.out.drew⟩
    | false =>
      rw [if_neg (by decide)]
      go_wp2_with (first
        | ((with_reducible refine gate_callee (f := 83) rfl ?_)
           refine goesL_ (some 16) rfl rfl Tryd.func83 (by kernel_rfl) rfl #[.pointer (some ⟨g, 0, none⟩), .int .u8 c] rfl (by (try simp only [List.map_toArray, List.map_cons, List.map_nil]); first | done | rfl) ?_
           (with_reducible refine (statusLine_to base _ g {s with len := s.len + 1} _ (.slice A' s.field.length cp') c hc0 hc1 hl hfl X1.out.rd s2 false hR.out).mono ?_)
           rintro e w3 ⟨x3, y3, rfl, hd⟩
           have Z := Aside0.mk (X1.out.trans hd)
           obtain ⟨A3, cp3, ey3, hcl3, _⟩ := Kd.R_reads hd.rd.field
           subst ey3
           have k1 : w3.cell? ⟨g, 1, none⟩ = some (.int .i64 s2.most) := (blk_cell hd.rd.blk 1).trans rfl
           have k4 : w3.cell? ⟨g, 4, none⟩ = some (.int .i64 s2.len) := (blk_cell hd.rd.blk 4).trans rfl
           have k15 : w3.cell? ⟨g, 15, none⟩ = some (.slice A3 s2.field.length cp3) := (blk_cell hd.rd.blk 15).trans rfl
           have g1 := blk_frozen hd.rd.blk 1
           have g4 := blk_frozen hd.rd.blk 4
           have g15 := blk_frozen hd.rd.blk 15
           clear hd
           refine ⟨_, rfl, ?_⟩))
      go_still (by kernel_rfl)
      go_wp2
      go_ret
      first | exact ⟨_, _, rfl, Z.out.drew⟩ | exact ⟨rfl, _, _, Z.out.drew⟩

set_option maxHeartbeats 3200000 in
theorem byteE (base : Nat) (w : World) (g : Nat) (s : RdSt) (u0 u1 : Value) (c : Int) (hc0 : 0 ≤ c) (hc1 : c ≤ 255) (hl : s.word.length ≤ 1000000) (hfl : s.field.length ≤ 1000000) (hn0 : 0 ≤ s.len) (hn1 : s.len ≤ 1000000) (h : Rd base w g s u0 u1)
    (c6 : s.at_ = 6) :
    Calls Tryd.prog 60 #[.pointer (some ⟨g, 0, none⟩), .int .u8 c] w fun e w' => ∃ v0 v1, e = .returned (errW (judge {s with len := s.len + 1, at_ := 7} (c == 10) 20)) ∧ St base w g u0 u1 w' {s with len := s.len + 1, at_ := 7} v0 v1 := by
  obtain ⟨A', cp', rfl, hcl', _⟩ := Kd.R_reads h.field
  have e0 : w.cell? ⟨g, 0, none⟩ = some (.bool s.asks) := (blk_cell h.blk 0).trans rfl
  have e1 : w.cell? ⟨g, 1, none⟩ = some (.int .i64 s.most) := (blk_cell h.blk 1).trans rfl
  have e2 : w.cell? ⟨g, 2, none⟩ = some (.int .i64 s.at_) := (blk_cell h.blk 2).trans rfl
  have e4 : w.cell? ⟨g, 4, none⟩ = some (.int .i64 s.len) := (blk_cell h.blk 4).trans rfl
  have e15 : w.cell? ⟨g, 15, none⟩ = some (.slice A' s.field.length cp') := (blk_cell h.blk 15).trans rfl
  have f0 := blk_frozen h.blk 0
  have f1 := blk_frozen h.blk 1
  have f2 := blk_frozen h.blk 2
  have f4 := blk_frozen h.blk 4
  have f15 := blk_frozen h.blk 15
  have X := Aside0.mk h.st
  have X1 := Aside0.mk (h.st.put 4 (.int .i64 (s.len + 1)) (s' := {s with len := s.len + 1}) rfl rfl rfl)
  have hw : wrap64 (s.len + 1) = s.len + 1 := by unfold wrap64; omega
  clear h
  go_enter Tryd.func60, Tryd.ntmps60
  have d6 : (s.at_ == 6) = true := by simpa using c6
  have Z := Aside0.mk (X1.out.put 2 (.int .i64 7) (s' := {s with len := s.len + 1, at_ := 7}) rfl rfl rfl)
  unfold judge
  by_cases hL : s.len + 1 > s.most
  · rw [if_pos hL]
    have dL := decide_eq_true hL
    go_wp2
    generalize (w.setCell ⟨g, 4, none⟩ (.int .i64 (s.len + 1))).setCell ⟨g, 2, none⟩ (.int .i64 7) = w3 at Z ⊢
    have k1 : w3.cell? ⟨g, 1, none⟩ = some (.int .i64 s.most) := (blk_cell Z.out.rd.blk 1).trans rfl
    have k4 : w3.cell? ⟨g, 4, none⟩ = some (.int .i64 (s.len + 1)) := (blk_cell Z.out.rd.blk 4).trans rfl
    have k15 : w3.cell? ⟨g, 15, none⟩ = some (.slice A' s.field.length cp') := (blk_cell Z.out.rd.blk 15).trans rfl
    have g1 := blk_frozen Z.out.rd.blk 1
    have g4 := blk_frozen Z.out.rd.blk 4
    have g15 := blk_frozen Z.out.rd.blk 15
    go_still (by kernel_rfl)
    go_wp2
    go_ret
    first | exact ⟨_, _, rfl, Z.out.drew⟩ | exact ⟨rfl, _, _, Z.out.drew⟩
  · rw [if_neg hL]
    have dL := decide_eq_false hL
    by_cases hc : c = 10
    · subst hc
      have dc : ((10 : Int) == 10) = true := rfl
      rw [dc, if_pos rfl]
      by_cases hF : 64 < s.field.length
      · rw [if_pos hF]
        have dF : decide ((s.field.length : Int) > 64) = true := decide_eq_true (by omega)
        go_wp2
        generalize (w.setCell ⟨g, 4, none⟩ (.int .i64 (s.len + 1))).setCell ⟨g, 2, none⟩ (.int .i64 7) = w3 at Z ⊢
        have k1 : w3.cell? ⟨g, 1, none⟩ = some (.int .i64 s.most) := (blk_cell Z.out.rd.blk 1).trans rfl
        have k4 : w3.cell? ⟨g, 4, none⟩ = some (.int .i64 (s.len + 1)) := (blk_cell Z.out.rd.blk 4).trans rfl
        have k15 : w3.cell? ⟨g, 15, none⟩ = some (.slice A' s.field.length cp') := (blk_cell Z.out.rd.blk 15).trans rfl
        have g1 := blk_frozen Z.out.rd.blk 1
        have g4 := blk_frozen Z.out.rd.blk 4
        have g15 := blk_frozen Z.out.rd.blk 15
        go_still (by kernel_rfl)
        go_wp2
        go_ret
        first | exact ⟨_, _, rfl, Z.out.drew⟩ | exact ⟨rfl, _, _, Z.out.drew⟩
      · rw [if_neg hF]
        have dF : decide ((s.field.length : Int) > 64) = false := decide_eq_false (by omega)
        go_wp2
        generalize (w.setCell ⟨g, 4, none⟩ (.int .i64 (s.len + 1))).setCell ⟨g, 2, none⟩ (.int .i64 7) = w3 at Z ⊢
        have k1 : w3.cell? ⟨g, 1, none⟩ = some (.int .i64 s.most) := (blk_cell Z.out.rd.blk 1).trans rfl
        have k4 : w3.cell? ⟨g, 4, none⟩ = some (.int .i64 (s.len + 1)) := (blk_cell Z.out.rd.blk 4).trans rfl
        have k15 : w3.cell? ⟨g, 15, none⟩ = some (.slice A' s.field.length cp') := (blk_cell Z.out.rd.blk 15).trans rfl
        have g1 := blk_frozen Z.out.rd.blk 1
        have g4 := blk_frozen Z.out.rd.blk 4
        have g15 := blk_frozen Z.out.rd.blk 15
        go_still (by kernel_rfl)
        go_wp2
        go_ret
        first | exact ⟨_, _, rfl, Z.out.drew⟩ | exact ⟨rfl, _, _, Z.out.drew⟩
    · have dc : (c == 10) = false := by simpa using hc
      rw [dc, if_neg (by decide)]
      go_wp2
      generalize (w.setCell ⟨g, 4, none⟩ (.int .i64 (s.len + 1))).setCell ⟨g, 2, none⟩ (.int .i64 7) = w3 at Z ⊢
      have k1 : w3.cell? ⟨g, 1, none⟩ = some (.int .i64 s.most) := (blk_cell Z.out.rd.blk 1).trans rfl
      have k4 : w3.cell? ⟨g, 4, none⟩ = some (.int .i64 (s.len + 1)) := (blk_cell Z.out.rd.blk 4).trans rfl
      have k15 : w3.cell? ⟨g, 15, none⟩ = some (.slice A' s.field.length cp') := (blk_cell Z.out.rd.blk 15).trans rfl
      have g1 := blk_frozen Z.out.rd.blk 1
      have g4 := blk_frozen Z.out.rd.blk 4
      have g15 := blk_frozen Z.out.rd.blk 15
      go_still (by kernel_rfl)
      go_wp2
      go_ret
      first | exact ⟨_, _, rfl, Z.out.drew⟩ | exact ⟨rfl, _, _, Z.out.drew⟩

/-- One byte. -/
def RdSt.byte (s : RdSt) (c : Int) : RdSt × Option Int :=
  if s.at_ = 6 then ({s with len := s.len + 1, at_ := 7}, judge {s with len := s.len + 1, at_ := 7} (c == 10) 20)
  else if s.at_ ≥ 7 then ((({s with len := s.len + 1} : RdSt).fldLine c).1, judge (({s with len := s.len + 1} : RdSt).fldLine c).1 (({s with len := s.len + 1} : RdSt).fldLine c).2 21)
  else if s.asks = true then ((({s with len := s.len + 1} : RdSt).reqLine c).1, judge (({s with len := s.len + 1} : RdSt).reqLine c).1 (({s with len := s.len + 1} : RdSt).reqLine c).2 20)
  else ((({s with len := s.len + 1} : RdSt).statLine c).1, judge (({s with len := s.len + 1} : RdSt).statLine c).1 (({s with len := s.len + 1} : RdSt).statLine c).2 20)

theorem byte_calls (base : Nat) (w : World) (g : Nat) (s : RdSt) (u0 u1 : Value) (c : Int) (hc0 : 0 ≤ c) (hc1 : c ≤ 255) (hl : s.word.length ≤ 1000000) (hfl : s.field.length ≤ 1000000) (hn0 : 0 ≤ s.len) (hn1 : s.len ≤ 1000000) (h : Rd base w g s u0 u1) :
    Calls Tryd.prog 60 #[.pointer (some ⟨g, 0, none⟩), .int .u8 c] w fun e w' => ∃ v0 v1, e = .returned (errW (s.byte c).2) ∧ St base w g u0 u1 w' (s.byte c).1 v0 v1 := by
  unfold RdSt.byte
  by_cases c6 : s.at_ = 6
  · rw [if_pos c6]
    exact byteE base w g s u0 u1 c hc0 hc1 hl hfl hn0 hn1 h c6
  · rw [if_neg c6]
    by_cases c7 : s.at_ ≥ 7
    · rw [if_pos c7]
      exact byteF base w g s u0 u1 c hc0 hc1 hl hfl hn0 hn1 h c6 c7 _ _ rfl
    · rw [if_neg c7]
      by_cases ca : s.asks = true
      · rw [if_pos ca]
        exact byteQ base w g s u0 u1 c hc0 hc1 hl hfl hn0 hn1 h c6 c7 ca _ _ rfl
      · rw [if_neg ca]
        exact byteP base w g s u0 u1 c hc0 hc1 hl hfl hn0 hn1 h c6 c7 (by simpa using ca) _ _ rfl

end Go.Proofs.YtmmlacbcolfngaaDoor.Q
