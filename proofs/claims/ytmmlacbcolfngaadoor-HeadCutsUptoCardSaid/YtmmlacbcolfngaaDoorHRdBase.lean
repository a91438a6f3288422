/- A head's reader: its block and the two rows of its own; what a call that goes on such a reader leaves. By hand. -/
import Derived.Test.YtmmlacbcolfngaaDoorQ0
import Derived.Test.YtmmlacbcolfngaaDoorWLast
namespace Go.Proofs.YtmmlacbcolfngaaDoor.Q
open Go.RowKit Go.Proofs.YtmmlacbcolfngaaDoorW.PrintWords Go.Proofs.YtmmlacbcolfngaaDoorW.PrintLast Go.Proofs.YtmmlacbcolfngaaDoorW.PrintMore
set_option linter.unusedVariables false
set_option linter.unusedSimpArgs false

structure RdSt where
  asks : Bool
  most : Int
  at_ : Int
  word : List Int
  len : Int
  err : Option Int
  qm : ByteArray
  qt : ByteArray
  qn : Int
  ps : Int
  pr : ByteArray
  pn : Int
  name : ByteArray
  field : List S67

def RdSt.cells (s : RdSt) (vw vf : Value) : Array Value :=
  #[.bool s.asks, .int .i64 s.most, .int .i64 s.at_, vw, .int .i64 s.len, errW s.err, .string s.qm, .string s.qt, .int .i64 s.qn, .slice none 0 0,
    .int .i64 s.ps, .string s.pr, .int .i64 s.pn, .slice none 0 0, .string s.name, vf]

structure Rd (base : Nat) (W : World) (g : Nat) (s : RdSt) (vw vf : Value) : Prop where
  blk : W.heap[g]? = some (.cells (s.cells vw vf) 105 (0, 0))
  word : Kd.R (Kd.int .u8) 5 W base (fun _ => True) vw s.word
  field : Kd.R k67 67 W base (fun _ => True) vf s.field
  ge : base ≤ g
  size : base ≤ W.heap.size

/-- From the world w, with the rows u0 and u1 in the block g, to W, with v0 and v1 there. -/
structure Chg (base : Nat) (w : World) (g : Nat) (u0 u1 : Value) (W : World) (v0 v1 : Value) : Prop where
  below : Below base w W
  keep : ∀ k, k < w.heap.size → k ≠ g → some k ≠ u0.ownBlock → some k ≠ u1.ownBlock → W.heap[k]? = w.heap[k]?
  row0 : v0.ownBlock = u0.ownBlock ∨ ∀ k, v0.ownBlock = some k → w.heap.size ≤ k
  row1 : v1.ownBlock = u1.ownBlock ∨ ∀ k, v1.ownBlock = some k → w.heap.size ≤ k

/-- In the midst of a call. -/
structure St (base : Nat) (w : World) (g : Nat) (u0 u1 : Value) (W : World) (s : RdSt) (v0 v1 : Value) : Prop where
  rd : Rd base W g s v0 v1
  chg : Chg base w g u0 u1 W v0 v1

section
variable {base : Nat} {w W W1 : World} {g : Nat} {u0 u1 v0 v1 : Value} {s : RdSt}
theorem Chg.refl (base : Nat) (w : World) (g : Nat) (u0 u1 : Value) : Chg base w g u0 u1 w u0 u1 := ⟨Below.refl _ _, fun _ _ _ _ _ => rfl, .inl rfl, .inl rfl⟩
theorem Rd.st (h : Rd base w g s u0 u1) : St base w g u0 u1 w s u0 u1 := ⟨h, Chg.refl _ _ _ _ _⟩
theorem Chg.trans {v0' v1' : Value} (h : Chg base w g u0 u1 W v0 v1) (k : Chg base W g v0 v1 W1 v0' v1') : Chg base w g u0 u1 W1 v0' v1' := by
  refine ⟨h.below.trans k.below, fun i hi hg h0 h1 => ?_, ?_, ?_⟩
  · refine (k.keep i (Nat.lt_of_lt_of_le hi h.below.size) hg ?_ ?_).trans (h.keep i hi hg h0 h1)
    · rcases h.row0 with e | e
      · rw [e]; exact h0
      · intro e'
        have := e i e'.symm
        omega
    · rcases h.row1 with e | e
      · rw [e]; exact h1
      · intro e'
        have := e i e'.symm
        omega
  · rcases k.row0 with e | e
    · rw [e]; exact h.row0
    · exact .inr (fun i hi => Nat.le_trans h.below.size (e i hi))
  · rcases k.row1 with e | e
    · rw [e]; exact h.row1
    · exact .inr (fun i hi => Nat.le_trans h.below.size (e i hi))
theorem St.trans {s' : RdSt} {v0' v1' : Value} (h : St base w g u0 u1 W s v0 v1) (k : St base W g v0 v1 W1 s' v0' v1') : St base w g u0 u1 W1 s' v0' v1' := ⟨k.rd, h.chg.trans k.chg⟩
/-- Something else has been made. -/
theorem St.on (h : St base w g u0 u1 W s v0 v1) (hb : Below W.heap.size W W1) : St base w g u0 u1 W1 s v0 v1 :=
  ⟨⟨blk_below h.rd.blk hb, Kd.R_below h.rd.word hb, Kd.R_below h.rd.field hb, h.rd.ge, Nat.le_trans h.rd.size hb.size⟩,
   ⟨h.chg.below.trans (hb.mono h.rd.size), fun i hi hg h0 h1 => (hb.block i (Nat.lt_of_lt_of_le hi h.chg.below.size)).trans (h.chg.keep i hi hg h0 h1), h.chg.row0, h.chg.row1⟩⟩
theorem St.alloc (h : St base w g u0 u1 W s v0 v1) (o : Obj) : St base w g u0 u1 (W.alloc o) s v0 v1 := h.on (below_alloc (Below.refl _ _) o)
theorem St.drew (h : St base w g u0 u1 W s v0 v1) : St base w g u0 u1 W.drew s v0 v1 := h.on (below_drew (Below.refl _ _))
theorem St.drewN (h : St base w g u0 u1 W s v0 v1) (n : Nat) : St base w g u0 u1 (W.drewN n) s v0 v1 := h.on (pw_below_drewN (Below.refl _ _) n)
theorem Chg.put (h : Chg base w g u0 u1 W v0 v1) (hg : base ≤ g) {j : Nat} {v : Value} {v0' v1' : Value} (e0 : v0'.ownBlock = v0.ownBlock) (e1 : v1'.ownBlock = v1.ownBlock) : Chg base w g u0 u1 (W.setCell ⟨g, j, none⟩ v) v0' v1' :=
  ⟨h.below.setCell hg _, fun i hi hk h0 h1 => (Below.heap_setCell W _ v i hk).trans (h.keep i hi hk h0 h1), by rw [e0]; exact h.row0, by rw [e1]; exact h.row1⟩
/-- A field of the reader is written, that is no row. -/
theorem St.put {s' : RdSt} (h : St base w g u0 u1 W s v0 v1) (j : Nat) (v : Value) (hc : (s.cells v0 v1).setIfInBounds j v = s'.cells v0 v1) (hw : s'.word = s.word) (hf : s'.field = s.field) :
    St base w g u0 u1 (W.setCell ⟨g, j, none⟩ v) s' v0 v1 := by
  refine ⟨⟨blk_put h.rd.blk j v hc, ?_, ?_, h.rd.ge, by simpa [World.setCell] using h.rd.size⟩, h.chg.put h.rd.ge rfl rfl⟩
  · rw [hw]; exact Kd.R_set h.rd.word h.rd.blk (by decide) j v
  · rw [hf]; exact Kd.R_set h.rd.field h.rd.blk (by decide) j v
/-- The word's row is cut. -/
theorem St.cut {A : Option Addr} {n c m : Nat} {s' : RdSt} (h : St base w g u0 u1 W s (.slice A n c) v1) (hm : m ≤ s.word.length) (hs : s' = {s with word := s.word.take m}) :
    St base w g u0 u1 (W.setCell ⟨g, 3, none⟩ (.slice A m c)) s' (.slice A m c) v1 := by
  subst hs
  refine ⟨⟨blk_put h.rd.blk 3 _ rfl, ?_, Kd.R_set h.rd.field h.rd.blk (by decide) 3 _, h.rd.ge, by simpa [World.setCell] using h.rd.size⟩, h.chg.put h.rd.ge ?_ rfl⟩
  · exact Kd.R_take (Kd.R_set h.rd.word h.rd.blk (by decide) 3 _) hm
  · cases A <;> rfl
/-- The word's row has grown, and its field is written. -/
theorem St.grow {p : Int} {x1 : Value} (h : St base w g u0 u1 W s v0 v1) (hr : Kd.R (Kd.int .u8) 5 W1 base (fun _ => True) x1 (s.word ++ [p])) (hb : Below base W W1) (hg : W.grownBy W1 v0.ownBlock)
    (ht : x1.ownBlock = v0.ownBlock ∨ ∃ b, x1.ownBlock = some b ∧ W.heap.size ≤ b) : St base w g u0 u1 (W1.setCell ⟨g, 3, none⟩ x1) {s with word := s.word ++ [p]} x1 v1 := by
  have hblk := blk_grown h.rd.blk hg (Kd.R_ne h.rd.word h.rd.blk (by decide))
  have hfi := Kd.R_grown (Kd.R_apartR h.rd.field h.rd.word (by decide)) hg (fun _ hk => hk.2)
  have hfi' : Kd.R k67 67 W1 base (fun _ => True) v1 s.field := Kd.R_mono hfi (fun _ _ => trivial)
  refine ⟨⟨blk_put hblk 3 _ rfl, Kd.R_set hr hblk (by decide) 3 _, Kd.R_set hfi' hblk (by decide) 3 _, h.rd.ge, ?_⟩, ?_⟩
  · have := h.rd.size
    have := hg.size
    simp only [World.setCell, Array.size_modify]
    omega
  · have hw0 : ∀ i, i < w.heap.size → some i ≠ u0.ownBlock → some i ≠ v0.ownBlock := by
      intro i hi h0
      rcases h.chg.row0 with e | e
      · rw [e]; exact h0
      · intro e'
        have := e i e'.symm
        omega
    refine ⟨(h.chg.below.trans hb).setCell h.rd.ge _, fun i hi hk h0 h1 => ?_, ?_, h.chg.row1⟩
    · exact (Below.heap_setCell W1 _ x1 i hk).trans ((hg.block i (Nat.lt_of_lt_of_le hi h.chg.below.size) (hw0 i hi h0)).trans (h.chg.keep i hi hk h0 h1))
    · rcases ht with e | ⟨b, e, hle⟩
      · rw [e]; exact h.chg.row0
      · refine .inr (fun k hk => ?_)
        rw [e] at hk
        injection hk with hk
        have := h.chg.below.size
        omega
/-- The fields' row has grown, and its field is written. -/
theorem St.growf {p : S67} {x1 : Value} (h : St base w g u0 u1 W s v0 v1) (hr : Kd.R k67 67 W1 base (fun _ => True) x1 (s.field ++ [p])) (hb : Below base W W1) (hg : W.grownBy W1 v1.ownBlock)
    (ht : x1.ownBlock = v1.ownBlock ∨ ∃ b, x1.ownBlock = some b ∧ W.heap.size ≤ b) : St base w g u0 u1 (W1.setCell ⟨g, 15, none⟩ x1) {s with field := s.field ++ [p]} v0 x1 := by
  have hblk := blk_grown h.rd.blk hg (Kd.R_ne h.rd.field h.rd.blk (by decide))
  have hwo := Kd.R_grown (Kd.R_apartR h.rd.word h.rd.field (by decide)) hg (fun _ hk => hk.2)
  have hwo' : Kd.R (Kd.int .u8) 5 W1 base (fun _ => True) v0 s.word := Kd.R_mono hwo (fun _ _ => trivial)
  refine ⟨⟨blk_put hblk 15 _ rfl, Kd.R_set hwo' hblk (by decide) 15 _, Kd.R_set hr hblk (by decide) 15 _, h.rd.ge, ?_⟩, ?_⟩
  · have := h.rd.size
    have := hg.size
    simp only [World.setCell, Array.size_modify]
    omega
  · have hw0 : ∀ i, i < w.heap.size → some i ≠ u1.ownBlock → some i ≠ v1.ownBlock := by
      intro i hi h0
      rcases h.chg.row1 with e | e
      · rw [e]; exact h0
      · intro e'
        have := e i e'.symm
        omega
    refine ⟨(h.chg.below.trans hb).setCell h.rd.ge _, fun i hi hk h0 h1 => ?_, h.chg.row0, ?_⟩
    · exact (Below.heap_setCell W1 _ x1 i hk).trans ((hg.block i (Nat.lt_of_lt_of_le hi h.chg.below.size) (hw0 i hi h1)).trans (h.chg.keep i hi hk h0 h1))
    · rcases ht with e | ⟨b, e, hle⟩
      · rw [e]; exact h.chg.row1
      · refine .inr (fun k hk => ?_)
        rw [e] at hk
        injection hk with hk
        have := h.chg.below.size
        omega
end

end Go.Proofs.YtmmlacbcolfngaaDoor.Q
