/- Plain Lean on what the printed functions answer (Heads); for all arguments that the lemmas name. -/
import Derived.Test.YtmmlacbcolfngaaDoorQ0
import Derived.Test.YtmmlacbcolfngaaDoorLLists
import Derived.Test.YtmmlacbcolfngaaDoorQChars3
import Derived.Test.YtmmlacbcolfngaaDoorQHead2
import Derived.Test.YtmmlacbcolfngaaDoorQTurnstileref092
namespace Go.Proofs.YtmmlacbcolfngaaDoor.Q
open Go.RowKit Go.Proofs.YtmmlacbcolfngaaDoorW.PrintWords Go.Proofs.YtmmlacbcolfngaaDoorW.PrintLast Go.Proofs.YtmmlacbcolfngaaDoorW.PrintMore
set_option linter.unusedVariables false
set_option linter.unusedSimpArgs false
/-- Fields of whose names and values none is longer than so many bytes. -/
def FOk (n : Nat) (l : List S67) : Prop := ∀ f ∈ l, f.f0.size ≤ n ∧ f.f1.size ≤ n
def nameIs (nm : List UInt8) (f : S67) : Bool := decide (lowL f.f0.data.toList = lowL nm)
def valsOf (nm : List UInt8) (l : List S67) : List ByteArray := (l.filter (nameIs nm)).map (·.f1)
theorem valsOf_len (nm : List UInt8) (l : List S67) : (valsOf nm l).length ≤ l.length := by
  have := List.length_filter_le (nameIs nm) l
  simpa [valsOf] using this
theorem valsOf_mem (nm : List UInt8) (l : List S67) (n : Nat) (h : FOk n l) : ∀ v ∈ valsOf nm l, v.size ≤ n := by
  intro v hv
  obtain ⟨f, hf, rfl⟩ := List.mem_map.1 hv
  exact (h f (List.mem_filter.1 hf).1).2
theorem valsOf_app (nm : List UInt8) (l m : List S67) : valsOf nm (l ++ m) = valsOf nm l ++ valsOf nm m := by simp [valsOf]
theorem valsOf_cons (nm : List UInt8) (f : S67) (l : List S67) : valsOf nm (f :: l) = if nameIs nm f = true then f.f1 :: valsOf nm l else valsOf nm l := by
  unfold valsOf
  rw [List.filter_cons]
  split <;> simp
theorem same_name (nm : ByteArray) (f : S67) (h1 : f.f0.size ≤ 140737488355328) (h2 : nm.size ≤ 140737488355328) : chars_Same.f f.f0 nm = some (nameIs nm.data.toList f) := same_f _ _ h1 h2
theorem values_l0 (xs : List S67) (nm : ByteArray) (hn : nm.size ≤ 140737488355328) (hxs : xs.length ≤ 8796093022000) (hok : FOk 140737488355328 xs) : ∀ (l : List S67) (acc : List ByteArray) (i : Int), 0 ≤ i → xs.drop i.toNat = l → (acc.length : Int) ≤ i → i ≤ xs.length →
    Ev (fun k => head_Values.l0 k nm acc xs (xs.length : Int) i) (acc ++ valsOf nm.data.toList l)
  | [], acc, i, h0, h, ha, hi => by
    have e := lscan_nil h0 hi h
    refine Ev.step (fun k => by rw [head_Values.l0]) ?_
    simp only [if_neg (show ¬ i < (xs.length : Int) by omega)]
    simpa [valsOf] using Ev.now acc
  | f :: l, acc, i, h0, h, ha, hi => by
    obtain ⟨h2, h3, h4⟩ := lscan_cons h0 h
    have hf : rd_T67 xs i = f := h3 _
    have hm : f ∈ xs := by
      have : f ∈ xs.drop i.toNat := by rw [h]; simp
      exact List.mem_of_mem_drop this
    have hal : acc.length < 8796093022208 := by omega
    refine Ev.step (fun k => by rw [head_Values.l0]) ?_
    simp only [if_pos h2, if_pos h0, hf, same_name nm f (hok f hm).1 hn, Option.bind_some, if_pos hal]
    rw [wrap_in (n := i + 1) (by omega), valsOf_cons]
    cases hb : nameIs nm.data.toList f
    · simpa [hb] using values_l0 xs nm hn hxs hok l acc (i + 1) (by omega) h4 (by omega) (by omega)
    · have := values_l0 xs nm hn hxs hok l (acc ++ [f.f1]) (i + 1) (by omega) h4 (by simp; omega) (by omega)
      simpa [hb] using this
theorem values_ev (xs : List S67) (nm : ByteArray) (hn : nm.size ≤ 140737488355328) (hxs : xs.length ≤ 8796093022000) (hok : FOk 140737488355328 xs) : Ev (fun k => head_Values.f k xs nm) (valsOf nm.data.toList xs) := by
  unfold head_Values.f
  simpa using values_l0 xs nm hn hxs hok xs [] 0 (by omega) rfl (by simp) (by omega)
theorem rvalues_l0 (xs : List S67) (nm : ByteArray) (hn : nm.size ≤ 140737488355327) (hxs : xs.length ≤ 8796093022000) (hok : FOk 140737488355327 xs) : ∀ (l : List S67) (acc : List ByteArray) (i : Int), 0 ≤ i → xs.drop i.toNat = l → (acc.length : Int) ≤ i → i ≤ xs.length →
    Ev (fun k => turnstileref09_Values.l0 k xs nm acc i) (acc ++ valsOf nm.data.toList l)
  | [], acc, i, h0, h, ha, hi => by
    have e := lscan_nil h0 hi h
    refine Ev.step (fun k => by rw [turnstileref09_Values.l0]) ?_
    simp only [if_neg (show ¬ i < (xs.length : Int) by omega)]
    simpa [valsOf] using Ev.now acc
  | f :: l, acc, i, h0, h, ha, hi => by
    obtain ⟨h2, h3, h4⟩ := lscan_cons h0 h
    have hf : rd_T67 xs i = f := h3 _
    have hm : f ∈ xs := by
      have : f ∈ xs.drop i.toNat := by rw [h]; simp
      exact List.mem_of_mem_drop this
    have hal : acc.length < 8796093022208 := by omega
    refine Ev.step (fun k => by rw [turnstileref09_Values.l0]) ?_
    simp only [if_pos h2, if_pos h0, hf]
    refine Ev.bind (rsame_ev _ _ (hok f hm).1 hn) ?_
    simp only [if_pos hal]
    rw [wrap_in (n := i + 1) (by omega), valsOf_cons]
    show Ev (fun k => if nameIs nm.data.toList f = true then turnstileref09_Values.l0 k xs nm (acc ++ [f.f1]) (i + 1) else turnstileref09_Values.l0 k xs nm acc (i + 1)) _
    cases hb : nameIs nm.data.toList f
    · simpa [hb] using rvalues_l0 xs nm hn hxs hok l acc (i + 1) (by omega) h4 (by omega) (by omega)
    · have := rvalues_l0 xs nm hn hxs hok l (acc ++ [f.f1]) (i + 1) (by omega) h4 (by simp; omega) (by omega)
      simpa [hb] using this
theorem rvalues_ev (xs : List S67) (nm : ByteArray) (hn : nm.size ≤ 140737488355327) (hxs : xs.length ≤ 8796093022000) (hok : FOk 140737488355327 xs) : Ev (fun k => turnstileref09_Values.f k xs nm) (valsOf nm.data.toList xs) := by
  unfold turnstileref09_Values.f
  simpa using rvalues_l0 xs nm hn hxs hok xs [] 0 (by omega) rfl (by simp) (by omega)

end Go.Proofs.YtmmlacbcolfngaaDoor.Q
