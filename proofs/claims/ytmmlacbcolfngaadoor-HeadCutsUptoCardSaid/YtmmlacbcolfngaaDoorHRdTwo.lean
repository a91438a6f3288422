/- Two readers beside each other; a row of bytes beside a reader; a reader's results in one form. By hand. -/
import Derived.Test.YtmmlacbcolfngaaDoorHRdOut
import Derived.Test.YtmmlacbcolfngaaDoorWApart
namespace Go.Proofs.YtmmlacbcolfngaaDoor.Q
open Go.RowKit Go.Proofs.YtmmlacbcolfngaaDoorW.PrintWords Go.Proofs.YtmmlacbcolfngaaDoorW.PrintLast Go.Proofs.YtmmlacbcolfngaaDoorW.PrintMore
set_option linter.unusedVariables false
set_option linter.unusedSimpArgs false

/-- No block of the one is a block of the other. -/
def Off (u v : Value) : Prop := ∀ k, u.ownBlock = some k → v.ownBlock ≠ some k
theorem Off.symm {u v : Value} (h : Off u v) : Off v u := fun k hv hu => h k hu hv
theorem off_nil (v : Value) : Off (.slice none 0 0) v := fun k hk => by simp [Value.ownBlock] at hk
theorem off_types {α β : Type} {d : Kd α} {d' : Kd β} {e e' b b' : Nat} {W : World} {v u : Value} {xs : List α} {ys : List β} {ok ok' : Nat → Prop} (h : d.R e W b ok v xs) (k : d'.R e' W b' ok' u ys) (he : e ≠ e') : Off v u := fun i hv hu => by
  obtain ⟨c1, h1⟩ := Kd.R_typed h i hv
  obtain ⟨c2, h2⟩ := Kd.R_typed k i hu
  rw [h1] at h2
  injection h2 with h2
  injection h2 with _ h2
  exact he h2
structure Two (base : Nat) (W : World) (g1 : Nat) (s1 : RdSt) (u0 u1 : Value) (g2 : Nat) (s2 : RdSt) (v0 v1 : Value) : Prop where
  a : Rd base W g1 s1 u0 u1
  b : Rd base W g2 s2 v0 v1
  ne : g1 ≠ g2
  off : Off u0 v0 ∧ Off u1 v1
section
variable {base : Nat} {W W1 : World} {g1 g2 : Nat} {s1 s2 t1 : RdSt} {u0 u1 v0 v1 x0 x1 : Value}
theorem Two.swap (h : Two base W g1 s1 u0 u1 g2 s2 v0 v1) : Two base W g2 s2 v0 v1 g1 s1 u0 u1 := ⟨h.b, h.a, h.ne.symm, h.off.1.symm, h.off.2.symm⟩
theorem Two.on (h : Two base W g1 s1 u0 u1 g2 s2 v0 v1) (hb : Below W.heap.size W W1) : Two base W1 g1 s1 u0 u1 g2 s2 v0 v1 := ⟨h.a.on hb, h.b.on hb, h.ne, h.off⟩
theorem Two.alloc (h : Two base W g1 s1 u0 u1 g2 s2 v0 v1) (o : Obj) : Two base (W.alloc o) g1 s1 u0 u1 g2 s2 v0 v1 := h.on (below_alloc (Below.refl _ _) o)
/-- A row is kept where a reader changes, if it is none of the reader's. -/
theorem row_keep {α : Type} {d : Kd α} {e b' : Nat} {v : Value} {xs : List α} {ok : Nat → Prop} (hE : d.E = []) (hr : d.R e W b' ok v xs) (hs : Rd base W g1 s1 u0 u1) (hc : Chg base W g1 u0 u1 W1 x0 x1) (he : e ≠ 105) (o0 : Off v u0) (o1 : Off v u1) : d.R e W1 b' ok v xs := by
  refine Kd.R_mono (Kd.R_step (Kd.R_tight hE hr) (fun k hk hlt => ?_)) (fun k hk => hr.1 k hk.symm)
  refine hc.keep k hlt (fun hg => ?_) (fun hu => ?_) (fun hu => ?_)
  · exact Kd.R_ne hr hs.blk he (by rw [← hg]; exact hk)
  · exact o0 k hk.symm hu.symm
  · exact o1 k hk.symm hu.symm
theorem Two.left (h : Two base W g1 s1 u0 u1 g2 s2 v0 v1) (hc : St base W g1 u0 u1 W1 t1 x0 x1) : Two base W1 g1 t1 x0 x1 g2 s2 v0 v1 := by
  have n01 : Off v0 u1 := off_types h.b.word h.a.field (by decide)
  have n10 : Off v1 u0 := off_types h.b.field h.a.word (by decide)
  refine ⟨hc.rd, ⟨?_, ?_, ?_, h.b.ge, hc.rd.size⟩, h.ne, ?_, ?_⟩
  · refine (hc.chg.keep g2 (blk_lt h.b.blk) h.ne.symm ?_ ?_).trans h.b.blk
    · exact Kd.R_ne h.a.word h.b.blk (by decide)
    · exact Kd.R_ne h.a.field h.b.blk (by decide)
  · exact row_keep rfl h.b.word h.a hc.chg (by decide) h.off.1.symm n01
  · exact row_keep rfl h.b.field h.a hc.chg (by decide) n10 h.off.2.symm
  · intro k hk hv
    rcases hc.chg.row0 with e | e
    · exact h.off.1 k (by rw [← e]; exact hk) hv
    · have := e k hk
      have := Kd.R_lt h.b.word k hv
      omega
  · intro k hk hv
    rcases hc.chg.row1 with e | e
    · exact h.off.2 k (by rw [← e]; exact hk) hv
    · have := e k hk
      have := Kd.R_lt h.b.field k hv
      omega
end
def RdSt.reqE (s : RdSt) : Option Int := if s.done true = true then none else some 8
def RdSt.reqM (s : RdSt) : ByteArray := if s.done true = true then s.qm else (⟨#[]⟩ : ByteArray)
def RdSt.reqT (s : RdSt) : ByteArray := if s.done true = true then s.qt else (⟨#[]⟩ : ByteArray)
def RdSt.reqN (s : RdSt) : Int := if s.done true = true then s.qn else 0
def RdSt.reqF (s : RdSt) : List S67 := if s.done true = true then s.field else []
def RdSt.resE (s : RdSt) : Option Int := if s.done false = true then none else some 8
def RdSt.resS (s : RdSt) : Int := if s.done false = true then s.ps else 0
def RdSt.resR (s : RdSt) : ByteArray := if s.done false = true then s.pr else (⟨#[]⟩ : ByteArray)
def RdSt.resN (s : RdSt) : Int := if s.done false = true then s.pn else 0
def RdSt.resF (s : RdSt) : List S67 := if s.done false = true then s.field else []
theorem request_any (base : Nat) (w : World) (g : Nat) (s : RdSt) (u0 u1 : Value) (h : Rd base w g s u0 u1) (hfl : s.field.length ≤ 1000000) :
    Calls Tryd.prog 26 #[.pointer (some ⟨g, 0, none⟩)] w fun e w' => ∃ A c, e = .returned (.tuple #[.agg #[.string s.reqM, .string s.reqT, .int .i64 s.reqN, .slice A s.reqF.length c], errW s.reqE]) ∧ Kd.R k67 67 w' w.heap.size (fun _ => True) (.slice A s.reqF.length c) s.reqF ∧ Below w.heap.size w w' := by
  unfold RdSt.reqM RdSt.reqT RdSt.reqN RdSt.reqF RdSt.reqE
  cases hd : s.done true
  · simp only [Bool.false_eq_true, if_false]
    exact (request_no base w g s u0 u1 h hd).mono (fun e w' ⟨he, hb⟩ => ⟨none, 0, he, Kd.R_nil _ _ _ _ _, hb⟩)
  · simp only [if_true]
    refine (request_yes base w g s u0 u1 h hd hfl).mono (fun e w' ⟨v, he, hR, hb⟩ => ?_)
    obtain ⟨A, c, ev⟩ := Kd.R_slice hR
    subst ev
    exact ⟨A, c, he, hR, hb⟩
theorem response_any (base : Nat) (w : World) (g : Nat) (s : RdSt) (u0 u1 : Value) (h : Rd base w g s u0 u1) (hfl : s.field.length ≤ 1000000) :
    Calls Tryd.prog 27 #[.pointer (some ⟨g, 0, none⟩)] w fun e w' => ∃ A c, e = .returned (.tuple #[.agg #[.int .i64 s.resS, .string s.resR, .int .i64 s.resN, .slice A s.resF.length c], errW s.resE]) ∧ Kd.R k67 67 w' w.heap.size (fun _ => True) (.slice A s.resF.length c) s.resF ∧ Below w.heap.size w w' := by
  unfold RdSt.resS RdSt.resR RdSt.resN RdSt.resF RdSt.resE
  cases hd : s.done false
  · simp only [Bool.false_eq_true, if_false]
    exact (response_no base w g s u0 u1 h hd).mono (fun e w' ⟨he, hb⟩ => ⟨none, 0, he, Kd.R_nil _ _ _ _ _, hb⟩)
  · simp only [if_true]
    refine (response_yes base w g s u0 u1 h hd hfl).mono (fun e w' ⟨v, he, hR, hb⟩ => ?_)
    obtain ⟨A, c, ev⟩ := Kd.R_slice hR
    subst ev
    exact ⟨A, c, he, hR, hb⟩
set_option maxRecDepth 8000 in
theorem len_calls (base : Nat) (w : World) (g : Nat) (s : RdSt) (u0 u1 : Value) (h : Rd base w g s u0 u1) :
    Calls Tryd.prog 28 #[.pointer (some ⟨g, 0, none⟩)] w fun e w' => e = .returned (.int .i64 s.len) ∧ w' = w := by
  have k4 := h.c4
  have g4 := blk_frozen h.blk 4
  clear h
  go_enter Tryd.func28, Tryd.ntmps28
  go_wp2
  go_ret
  exact ⟨rfl, rfl⟩
end Go.Proofs.YtmmlacbcolfngaaDoor.Q
