/- What an argument that can be read as data is, as a value of its kind; for all arguments. -/
import Derived.Test.YtdmbgbennlnpcaaDoorWriteLocalsQ0
import Derived.Test.YtdmbgbennlnpcaaDoorRows
import Derived.WideShapes
import Derived.Lay
namespace Go.Proofs.YtdmbgbennlnpcaaDoor.Q
open Go.RowKit Go.Proofs.YtdmbgbennlnpcaaDoorW.PrintWords Go.Proofs.YtdmbgbennlnpcaaDoorW.PrintLast Go.Proofs.YtdmbgbennlnpcaaDoorW.PrintMore
set_option linter.unusedVariables false
set_option linter.unusedSimpArgs false
structure Opens {α : Type} (P : Program) (t : TypeId) (d : Kd α) (B : Nat → α → Prop) : Prop where
  go : ∀ {H : Type} (enc : TypeId × Value → H) (W : World) (fuel : Nat) (cs : List Value) (x : DataW H) (ps : List MemPlace), DataW.trod enc P W 0 (fun _ => true) true fuel t cs = some (x, ps) → ∃ a : α, d.K W a cs ∧ B (Rows.uptoBulk x) a
  mono : ∀ n m a, n ≤ m → B n a → B m a
section
variable {P : Program} {t : TypeId}
theorem opens_int {k : IntKind} (hu : P.underlying t = some (.int k)) : Opens P t (Kd.int k) (fun _ n => (Lit.int k n).wf = true) where
  go := by
    intro H enc W fuel cs x ps h
    cases fuel with
    | zero => simp [DataW.trod] at h
    | succ fuel =>
      unfold DataW.trod at h
      simp only [hu] at h
      split at h <;> simp_all
      obtain ⟨⟨rfl, hw⟩, rfl, rfl⟩ := h
      exact ⟨_, rfl, hw⟩
  mono := fun _ _ _ _ h => h
theorem opens_bool (hu : P.underlying t = some .bool) : Opens P t Kd.bool (fun _ _ => True) where
  go := by
    intro H enc W fuel cs x ps h
    cases fuel with
    | zero => simp [DataW.trod] at h
    | succ fuel =>
      unfold DataW.trod at h
      simp only [hu] at h
      split at h <;> first | exact ⟨_, rfl, trivial⟩ | simp_all
  mono := fun _ _ _ _ h => h
end
theorem opened {α : Type} {P : Program} {t : TypeId} {d : Kd α} {B : Nat → α → Prop} (ho : Opens P t d B) {H : Type} {enc : TypeId × Value → H} {W : World} {v : Value} {x : DataW H} {ps : List MemPlace} (h : DataW.Trod enc P W 0 (fun _ => true) true t v x ps) :
    ∃ a : α, d.K W a v.cells.toList ∧ B (Rows.uptoBulk x) a := by
  obtain ⟨fuel, h⟩ := h
  exact ho.go enc W fuel _ x ps h
theorem laidMet_over {P : Program} {w0 : World} {laid : List (String × DataW Unit)} (args : Array Value) (hf : w0.layFits P laid [] = true) (hi : w0.layIfaces P laid (w0.layVars P laid) = true) :
    laidMet P laid ((w0.layVars P laid).forCall (fun _ _ => 0) ⟨#[], args, []⟩).memory := by
  have e1 : (laid.filter fun x => (laid.map (·.1)).contains x.1) = laid := List.filter_eq_self.2 fun x hx => List.contains_iff_mem.2 (List.mem_map.2 ⟨x, hx, rfl⟩)
  have e2 : (laid.filter fun x => !(laid.map (·.1)).contains x.1) = [] := List.filter_eq_nil_iff.2 fun x hx => by rw [List.contains_iff_mem.2 (List.mem_map.2 ⟨x, hx, rfl⟩)]; simp
  have h : laidMet P laid (w0.layVars P laid) := laidMet_layVars (w0 := w0) (laid.map (·.1)) [] (by rw [e1]) (by rw [e1]; exact hf) (by rw [e1]; exact hi) (by rw [e2]; exact LaidIn.none)
  exact h.of_heap (by simp [World.memory, World.forCall, Input.heap])
end Go.Proofs.YtdmbgbennlnpcaaDoor.Q
