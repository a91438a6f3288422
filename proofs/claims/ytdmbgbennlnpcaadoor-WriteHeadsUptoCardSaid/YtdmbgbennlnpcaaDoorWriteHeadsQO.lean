/- What an argument that can be read as data is, as a value of its kind; for all arguments. -/
import Derived.Test.YtdmbgbennlnpcaaDoorWriteHeadsQ0
import Derived.Test.YtdmbgbennlnpcaaDoorRows
import Derived.WideShapes
import Derived.Lay
namespace Go.Proofs.YtdmbgbennlnpcaaDoor.Q
open Go.RowKit Go.Proofs.YtdmbgbennlnpcaaDoorW.PrintWords Go.Proofs.YtdmbgbennlnpcaaDoorW.PrintLast Go.Proofs.YtdmbgbennlnpcaaDoorW.PrintMore
set_option linter.unusedVariables false
set_option linter.unusedSimpArgs false
structure Opens {α : Type} (P : Program) (t : TypeId) (d : Kd α) (B : Nat → α → Prop) : Prop where
  go : ∀ {H : Type} (enc : TypeId × Value → H) (W : World) (fuel : Nat) (cs : List Value) (x : DataW H) (ps : List MemPlace), DataW.trod enc P W 0 (fun _ => true) true fuel t cs = some (x, ps) → ∃ a : α, d.K W a cs ∧ B (Rows.uptoBulk x) a
  mono : ∀ n m a, n ≤ m → B n a → B m a
section
variable {P : Program} {t : TypeId}
theorem opens_int {k : IntKind} (hu : P.underlying t = some (.int k)) : Opens P t (Kd.int k) (fun _ n => (Lit.int k n).wf = true) where
  go := by
    intro H enc W fuel cs x ps h
    cases fuel with
    | zero => simp [DataW.trod] at h
    | succ fuel =>
      unfold DataW.trod at h
      simp only [hu] at h
      split at h <;> simp_all
      obtain ⟨⟨rfl, hw⟩, rfl, rfl⟩ := h
      exact ⟨_, rfl, hw⟩
  mono := fun _ _ _ _ h => h
theorem opens_string (hu : P.underlying t = some .string) : Opens P t Kd.string (fun n s => s.size + 1 ≤ n ∧ s.size ≤ 9223372036854775807) where
  go := by
    intro H enc W fuel cs x ps h
    cases fuel with
    | zero => simp [DataW.trod] at h
    | succ fuel =>
      unfold DataW.trod at h
      simp only [hu] at h
      split at h <;> simp_all
      obtain ⟨hw, rfl, rfl⟩ := h
      exact ⟨_, rfl, by simp [Rows.uptoBulk], by unfold maxLen at hw; omega⟩
  mono := fun _ _ _ h1 h2 => ⟨Nat.le_trans h2.1 h1, h2.2⟩
theorem mapM_choose {ι β α : Type} {f : ι → Option β} {Q : ι → β → α → Prop} : ∀ (l : List ι) (ys : List β), l.mapM f = some ys → (∀ i ∈ l, ∀ y, f i = some y → ∃ a, Q i y a) →
    ys.length = l.length ∧ ∃ zs : List α, zs.length = l.length ∧ ∀ (j : Nat) (a : α), zs[j]? = some a → ∃ (i : ι) (y : β), l[j]? = some i ∧ ys[j]? = some y ∧ f i = some y ∧ Q i y a
  | [], ys, h, _ => by
    simp at h
    subst h
    exact ⟨rfl, [], rfl, by simp⟩
  | i :: l, ys, h, hQ => by
    simp only [List.mapM_cons] at h
    cases hf : f i with
    | none => simp [hf] at h
    | some y =>
      cases hl : l.mapM f with
      | none => simp [hf, hl] at h
      | some zs =>
        simp [hf, hl] at h
        subst h
        obtain ⟨a, ha⟩ := hQ i (by simp) y hf
        obtain ⟨h1, qs, h2, h3⟩ := mapM_choose l zs hl (fun i hi => hQ i (by simp [hi]))
        refine ⟨by simp [h1], a :: qs, by simp [h2], ?_⟩
        intro j b hj
        cases j with
        | zero =>
          simp at hj
          subst hj
          exact ⟨i, y, rfl, rfl, hf, ha⟩
        | succ j => simpa using h3 j b (by simpa using hj)
theorem bulk_part {H : Type} {d : DataW H} {l : List (DataW H)} (h : d ∈ l) : Rows.uptoBulk d ≤ Rows.uptoBulkAll l := by
  induction l with
  | nil => cases h
  | cons x r ih =>
    simp only [Rows.uptoBulkAll]
    cases List.mem_cons.1 h with
    | inl e => subst e; omega
    | inr e => have := ih e; omega
theorem bulk_one {H : Type} (d : DataW H) : 1 ≤ Rows.uptoBulk d := by
  cases d with
  | lit l => cases l <;> simp [Rows.uptoBulk]
  | nil => simp [Rows.uptoBulk]
  | ptr d => simp [Rows.uptoBulk]
  | slice elems spare => simp [Rows.uptoBulk]
  | agg parts => simp [Rows.uptoBulk]
  | iface t d => simp [Rows.uptoBulk]
  | map entries => simp [Rows.uptoBulk]
  | held h => simp [Rows.uptoBulk]
theorem bulk_length {H : Type} (l : List (DataW H)) : l.length ≤ Rows.uptoBulkAll l := by
  induction l with
  | nil => simp
  | cons x r ih => have := bulk_one x; simp only [Rows.uptoBulkAll, List.length_cons]; omega
theorem opens_slice {α : Type} {e : TypeId} {d : Kd α} {B : Nat → α → Prop} (hu : P.underlying t = some (.slice e)) (hc : P.cellsOf e = d.sz) (hE : Opens P e d B) :
    Opens P t (Kd.slice e d) (fun n xs => xs.length + 1 ≤ n ∧ xs.length ≤ 9223372036854775807 ∧ ∀ x ∈ xs, B n x) where
  mono := fun n m xs h1 h2 => ⟨Nat.le_trans h2.1 h1, h2.2.1, fun x hx => hE.mono n m x h1 (h2.2.2 x hx)⟩
  go := by
    intro H enc W fuel cs x ps h
    cases fuel with
    | zero => simp [DataW.trod] at h
    | succ fuel =>
      unfold DataW.trod at h
      simp only [hu] at h
      split at h
      any_goals (exfalso; simp_all; done)
      · simp only [Option.some.injEq, Prod.mk.injEq] at h
        obtain ⟨rfl, rfl⟩ := h
        exact ⟨[], ⟨none, 0, rfl, Nat.le_refl _, Kd.C_nil d W⟩, by simp [Rows.uptoBulk], by simp, by simp⟩
      · rename_i a len cap heq
        obtain rfl := TypeDesc.slice.inj (Option.some.inj heq)
        split at h
        case isFalse => cases h
        rename_i hb
        obtain ⟨_, hlc, hcm⟩ := hb
        obtain ⟨elems, he, h⟩ := Option.bind_eq_some_iff.1 h
        simp only [Option.map_eq_some_iff] at h
        obtain ⟨rest, _, h⟩ := h
        simp only [Prod.mk.injEq] at h
        obtain ⟨rfl, rfl⟩ := h
        obtain ⟨hl, xs, hxl, hx⟩ := mapM_choose (α := α) (Q := fun i y a_ => ∃ c : List Value, c.length = d.sz ∧ d.K W a_ c ∧ B (Rows.uptoBulk y.1) a_ ∧ ∀ i' u, c[i']? = some u → W.cell? (a.add (i * d.sz + i')) = some u) _ _ he (by
          intro i _ y hy
          obtain ⟨c, hcc, hy⟩ := Option.bind_eq_some_iff.1 hy
          obtain ⟨z, hz, hBz⟩ := hE.go enc W fuel c y.1 y.2 hy
          obtain ⟨_, h2, h3⟩ := World.cells?_some hcc
          rw [hc] at h2 h3
          refine ⟨z, c, h2, hz, hBz, fun i' u hu' => ?_⟩
          have hi' : i' < d.sz := by
            have := (List.getElem?_eq_some_iff.1 hu').1
            omega
          have := h3 i' hi'
          rw [Addr.add_add] at this
          rw [this, hu'])
        simp only [List.length_range] at hl hxl
        subst hxl
        refine ⟨xs, ⟨some a, cap, rfl, hlc, ⟨rfl, by unfold maxLen at hcm; omega, fun _ => ⟨a, rfl, fun j p hj => ?_⟩⟩⟩, ?_, by unfold maxLen at hcm; omega, ?_⟩
        · obtain ⟨i, y, h1, _, _, c, h5, h6, _, h8⟩ := hx j p hj
          have : i = j := by
            have := (List.getElem?_eq_some_iff.1 h1).2
            simpa using this.symm
          subst this
          exact ⟨c, h5, h6, h8⟩
        · have := bulk_length (elems.map (·.1))
          simp only [Rows.uptoBulk]
          simp at this
          omega
        · intro p hp
          obtain ⟨j, hj⟩ := List.mem_iff_getElem?.1 hp
          obtain ⟨i, y, _, h2, _, _, _, _, h7, _⟩ := hx j p hj
          refine hE.mono _ _ _ ?_ h7
          have := bulk_part (List.mem_map_of_mem (f := (·.1)) (List.mem_of_getElem? h2))
          simp only [Rows.uptoBulk]
          omega
theorem trod_struct {H : Type} {enc : TypeId × Value → H} {W : World} {fuel : Nat} {cs : List Value} {x : DataW H} {ps : List MemPlace} {fs : Array Field} (hu : P.underlying t = some (.struct fs))
    (h : DataW.trod enc P W 0 (fun _ => true) true fuel t cs = some (x, ps)) :
    ∃ (fuel' : Nat) (ys : List (DataW H × List MemPlace)), cs.length = P.cellsOf t ∧ (fs.toList.mapM fun f => DataW.trod enc P W 0 (fun _ => true) true fuel' f.type ((cs.drop f.offset).take (P.cellsOf f.type))) = some ys ∧ x = .agg (ys.map (·.1)) := by
  cases fuel with
  | zero => simp [DataW.trod] at h
  | succ fuel =>
    unfold DataW.trod at h
    simp only [hu] at h
    split at h
    case isFalse => cases h
    rename_i hl
    simp only [Option.map_eq_some_iff] at h
    obtain ⟨ys, h, h2⟩ := h
    simp only [Prod.mk.injEq] at h2
    exact ⟨fuel, ys, hl, h, h2.1.symm⟩
theorem mapM_two {ι β : Type} {f : ι → Option β} {i : ι} {l : List ι} {ys : List β} (h : (i :: l).mapM f = some ys) : ∃ y zs, f i = some y ∧ l.mapM f = some zs ∧ ys = y :: zs := by
  simp only [List.mapM_cons] at h
  cases hf : f i with
  | none => simp [hf] at h
  | some y =>
    cases hl : l.mapM f with
    | none => simp [hf, hl] at h
    | some zs =>
      simp [hf, hl] at h
      exact ⟨y, zs, rfl, rfl, h.symm⟩
theorem K_pair {α β : Type} {a : Kd α} {b : Kd β} {W : World} {x : α} {y : β} {cs : List Value} {off n : Nat} (h1 : a.K W x ((cs.drop off).take n)) (h2 : b.K W y (cs.drop (off + n))) : (Kd.pair a b).K W (x, y) (cs.drop off) :=
  ⟨(cs.drop off).take n, cs.drop (off + n), by rw [← List.drop_drop, List.take_append_drop], h1, h2⟩
theorem K_last {β : Type} {b : Kd β} {W : World} {y : β} {cs : List Value} {off n : Nat} (hl : cs.length = off + n) (h : b.K W y ((cs.drop off).take n)) : b.K W y (cs.drop off) := by
  rwa [List.take_of_length_le (by simp; omega)] at h
end
theorem opened {α : Type} {P : Program} {t : TypeId} {d : Kd α} {B : Nat → α → Prop} (ho : Opens P t d B) {H : Type} {enc : TypeId × Value → H} {W : World} {v : Value} {x : DataW H} {ps : List MemPlace} (h : DataW.Trod enc P W 0 (fun _ => true) true t v x ps) :
    ∃ a : α, d.K W a v.cells.toList ∧ B (Rows.uptoBulk x) a := by
  obtain ⟨fuel, h⟩ := h
  exact ho.go enc W fuel _ x ps h
def BS50 (n : Nat) (s : S50) : Prop := (s.f0.size + 1 ≤ n ∧ s.f0.size ≤ 9223372036854775807) ∧ (s.f1.size + 1 ≤ n ∧ s.f1.size ≤ 9223372036854775807)
set_option maxRecDepth 100000 in
theorem opensS50 : Opens Tryd.prog 50 k50 BS50 where
  mono := fun n m s h1 h2 => ⟨(opens_string Tryd.underlying9).mono n m _ h1 h2.1, (opens_string Tryd.underlying9).mono n m _ h1 h2.2⟩
  go := by
    intro H enc W fuel cs x ps h
    obtain ⟨fuel', ys, hl, hm_, rfl⟩ := trod_struct Tryd.underlying50 h
    rw [show Tryd.prog.cellsOf 50 = 2 by kernel_rfl] at hl
    obtain ⟨y0, zs0, h0, hm0, rfl⟩ := mapM_two hm_
    obtain ⟨y1, zs1, h1, hm1, rfl⟩ := mapM_two hm0
    obtain rfl : zs1 = [] := by simpa using hm1
    obtain ⟨a0, k0_, b0⟩ := (opens_string Tryd.underlying9).go enc W fuel' _ _ _ h0
    rw [show Tryd.prog.cellsOf 9 = 1 by kernel_rfl] at k0_
    obtain ⟨a1, k1_, b1⟩ := (opens_string Tryd.underlying9).go enc W fuel' _ _ _ h1
    rw [show Tryd.prog.cellsOf 9 = 1 by kernel_rfl] at k1_
    refine ⟨⟨a0, a1⟩, (K_pair (off := 0) (n := 1) k0_ (K_last (off := 1) (n := 1) (by omega) k1_)), ?_, ?_⟩
    · exact (opens_string Tryd.underlying9).mono _ _ _ (by simp only [List.map, Rows.uptoBulk, Rows.uptoBulkAll]; omega) b0
    · exact (opens_string Tryd.underlying9).mono _ _ _ (by simp only [List.map, Rows.uptoBulk, Rows.uptoBulkAll]; omega) b1
def BS38 (n : Nat) (s : S38) : Prop := (s.f0.size + 1 ≤ n ∧ s.f0.size ≤ 9223372036854775807) ∧ (s.f1.size + 1 ≤ n ∧ s.f1.size ≤ 9223372036854775807) ∧ ((Lit.int .i64 s.f2).wf = true) ∧ (s.f3.length + 1 ≤ n ∧ s.f3.length ≤ 9223372036854775807 ∧ ∀ x ∈ s.f3, BS50 n x)
set_option maxRecDepth 100000 in
theorem opensS38 : Opens Tryd.prog 38 k38 BS38 where
  mono := fun n m s h1 h2 => ⟨(opens_string Tryd.underlying9).mono n m _ h1 h2.1, (opens_string Tryd.underlying9).mono n m _ h1 h2.2.1, (opens_int Tryd.underlying3).mono n m _ h1 h2.2.2.1, (opens_slice Tryd.underlying22 (by kernel_rfl) opensS50).mono n m _ h1 h2.2.2.2⟩
  go := by
    intro H enc W fuel cs x ps h
    obtain ⟨fuel', ys, hl, hm_, rfl⟩ := trod_struct Tryd.underlying38 h
    rw [show Tryd.prog.cellsOf 38 = 4 by kernel_rfl] at hl
    obtain ⟨y0, zs0, h0, hm0, rfl⟩ := mapM_two hm_
    obtain ⟨y1, zs1, h1, hm1, rfl⟩ := mapM_two hm0
    obtain ⟨y2, zs2, h2, hm2, rfl⟩ := mapM_two hm1
    obtain ⟨y3, zs3, h3, hm3, rfl⟩ := mapM_two hm2
    obtain rfl : zs3 = [] := by simpa using hm3
    obtain ⟨a0, k0_, b0⟩ := (opens_string Tryd.underlying9).go enc W fuel' _ _ _ h0
    rw [show Tryd.prog.cellsOf 9 = 1 by kernel_rfl] at k0_
    obtain ⟨a1, k1_, b1⟩ := (opens_string Tryd.underlying9).go enc W fuel' _ _ _ h1
    rw [show Tryd.prog.cellsOf 9 = 1 by kernel_rfl] at k1_
    obtain ⟨a2, k2_, b2⟩ := (opens_int Tryd.underlying3).go enc W fuel' _ _ _ h2
    rw [show Tryd.prog.cellsOf 3 = 1 by kernel_rfl] at k2_
    obtain ⟨a3, k3_, b3⟩ := (opens_slice Tryd.underlying22 (by kernel_rfl) opensS50).go enc W fuel' _ _ _ h3
    rw [show Tryd.prog.cellsOf 22 = 1 by kernel_rfl] at k3_
    refine ⟨⟨a0, a1, a2, a3⟩, (K_pair (off := 0) (n := 1) k0_ (K_pair (off := 1) (n := 1) k1_ (K_pair (off := 2) (n := 1) k2_ (K_last (off := 3) (n := 1) (by omega) k3_)))), ?_, ?_, ?_, ?_⟩
    · exact (opens_string Tryd.underlying9).mono _ _ _ (by simp only [List.map, Rows.uptoBulk, Rows.uptoBulkAll]; omega) b0
    · exact (opens_string Tryd.underlying9).mono _ _ _ (by simp only [List.map, Rows.uptoBulk, Rows.uptoBulkAll]; omega) b1
    · exact b2
    · exact (opens_slice Tryd.underlying22 (by kernel_rfl) opensS50).mono _ _ _ (by simp only [List.map, Rows.uptoBulk, Rows.uptoBulkAll]; omega) b3
def BS24 (n : Nat) (s : S24) : Prop := ((Lit.int .i64 s.f0).wf = true) ∧ (s.f1.size + 1 ≤ n ∧ s.f1.size ≤ 9223372036854775807) ∧ ((Lit.int .i64 s.f2).wf = true) ∧ (s.f3.length + 1 ≤ n ∧ s.f3.length ≤ 9223372036854775807 ∧ ∀ x ∈ s.f3, BS50 n x)
set_option maxRecDepth 100000 in
theorem opensS24 : Opens Tryd.prog 24 k24 BS24 where
  mono := fun n m s h1 h2 => ⟨(opens_int Tryd.underlying3).mono n m _ h1 h2.1, (opens_string Tryd.underlying9).mono n m _ h1 h2.2.1, (opens_int Tryd.underlying3).mono n m _ h1 h2.2.2.1, (opens_slice Tryd.underlying22 (by kernel_rfl) opensS50).mono n m _ h1 h2.2.2.2⟩
  go := by
    intro H enc W fuel cs x ps h
    obtain ⟨fuel', ys, hl, hm_, rfl⟩ := trod_struct Tryd.underlying24 h
    rw [show Tryd.prog.cellsOf 24 = 4 by kernel_rfl] at hl
    obtain ⟨y0, zs0, h0, hm0, rfl⟩ := mapM_two hm_
    obtain ⟨y1, zs1, h1, hm1, rfl⟩ := mapM_two hm0
    obtain ⟨y2, zs2, h2, hm2, rfl⟩ := mapM_two hm1
    obtain ⟨y3, zs3, h3, hm3, rfl⟩ := mapM_two hm2
    obtain rfl : zs3 = [] := by simpa using hm3
    obtain ⟨a0, k0_, b0⟩ := (opens_int Tryd.underlying3).go enc W fuel' _ _ _ h0
    rw [show Tryd.prog.cellsOf 3 = 1 by kernel_rfl] at k0_
    obtain ⟨a1, k1_, b1⟩ := (opens_string Tryd.underlying9).go enc W fuel' _ _ _ h1
    rw [show Tryd.prog.cellsOf 9 = 1 by kernel_rfl] at k1_
    obtain ⟨a2, k2_, b2⟩ := (opens_int Tryd.underlying3).go enc W fuel' _ _ _ h2
    rw [show Tryd.prog.cellsOf 3 = 1 by kernel_rfl] at k2_
    obtain ⟨a3, k3_, b3⟩ := (opens_slice Tryd.underlying22 (by kernel_rfl) opensS50).go enc W fuel' _ _ _ h3
    rw [show Tryd.prog.cellsOf 22 = 1 by kernel_rfl] at k3_
    refine ⟨⟨a0, a1, a2, a3⟩, (K_pair (off := 0) (n := 1) k0_ (K_pair (off := 1) (n := 1) k1_ (K_pair (off := 2) (n := 1) k2_ (K_last (off := 3) (n := 1) (by omega) k3_)))), ?_, ?_, ?_, ?_⟩
    · exact b0
    · exact (opens_string Tryd.underlying9).mono _ _ _ (by simp only [List.map, Rows.uptoBulk, Rows.uptoBulkAll]; omega) b1
    · exact b2
    · exact (opens_slice Tryd.underlying22 (by kernel_rfl) opensS50).mono _ _ _ (by simp only [List.map, Rows.uptoBulk, Rows.uptoBulkAll]; omega) b3
theorem laidMet_over {P : Program} {w0 : World} {laid : List (String × DataW Unit)} (args : Array Value) (hf : w0.layFits P laid [] = true) (hi : w0.layIfaces P laid (w0.layVars P laid) = true) :
    laidMet P laid ((w0.layVars P laid).forCall (fun _ _ => 0) ⟨#[], args, []⟩).memory := by
  have e1 : (laid.filter fun x => (laid.map (·.1)).contains x.1) = laid := List.filter_eq_self.2 fun x hx => List.contains_iff_mem.2 (List.mem_map.2 ⟨x, hx, rfl⟩)
  have e2 : (laid.filter fun x => !(laid.map (·.1)).contains x.1) = [] := List.filter_eq_nil_iff.2 fun x hx => by rw [List.contains_iff_mem.2 (List.mem_map.2 ⟨x, hx, rfl⟩)]; simp
  have h : laidMet P laid (w0.layVars P laid) := laidMet_layVars (w0 := w0) (laid.map (·.1)) [] (by rw [e1]) (by rw [e1]; exact hf) (by rw [e1]; exact hi) (by rw [e2]; exact LaidIn.none)
  exact h.of_heap (by simp [World.memory, World.forCall, Input.heap])
end Go.Proofs.YtdmbgbennlnpcaaDoor.Q
