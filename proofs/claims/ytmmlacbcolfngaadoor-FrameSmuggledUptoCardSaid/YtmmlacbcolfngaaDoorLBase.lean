/- Plain Lean on what the printed functions answer (Base); for all arguments that the lemmas name. -/
import Derived.Test.YtmmlacbcolfngaaDoorQ0
namespace Go.Proofs.YtmmlacbcolfngaaDoor.Q
open Go.RowKit Go.Proofs.YtmmlacbcolfngaaDoorW.PrintWords Go.Proofs.YtmmlacbcolfngaaDoorW.PrintLast Go.Proofs.YtmmlacbcolfngaaDoorW.PrintMore
set_option linter.unusedVariables false
set_option linter.unusedSimpArgs false
theorem ba_toList (s : ByteArray) : s.toList = s.data.toList := ByteArray.toList_eq s
theorem ba_ext {a b : ByteArray} (h : a.data.toList = b.data.toList) : a = b := by
  cases a; cases b; simp at h; simp [h]
theorem ba_len (s : ByteArray) : s.data.toList.length = s.size := by simp
theorem mk_size (l : List UInt8) : (⟨l.toArray⟩ : ByteArray).size = l.length := rfl
/-- A fact of all bytes, by the kernel. -/
theorem byte_all {p : Int → Prop} (h : ∀ n : Fin 256, p (n.val : Int)) (c : Int) (h0 : 0 ≤ c) (h1 : c ≤ 255) : p c := by
  obtain ⟨n, rfl⟩ := Int.eq_ofNat_of_zero_le h0
  exact h ⟨n, by omega⟩
theorem wrap_in {n : Int} (h : -9223372036854775808 ≤ n ∧ n ≤ 9223372036854775807) : wrap64 n = n := by unfold wrap64; omega
theorem scan_nil {s : ByteArray} {i : Int} (h0 : 0 ≤ i) (h1 : i ≤ s.size) (h : s.data.toList.drop i.toNat = []) : i = s.size := by
  have : s.data.toList.length ≤ i.toNat := by simpa using h
  rw [ba_len] at this
  omega
theorem scan_cons {s : ByteArray} {i : Int} {b : UInt8} {l : List UInt8} (h0 : 0 ≤ i) (h : s.data.toList.drop i.toNat = b :: l) : i < s.size ∧ bt s i = (b.toNat : Int) ∧ s.data.toList.drop (i + 1).toNat = l := by
  have hl : i.toNat < s.data.toList.length := by
    rcases Nat.lt_or_ge i.toNat s.data.toList.length with h' | h'
    · exact h'
    · rw [List.drop_of_length_le h'] at h; cases h
  have hd := List.drop_eq_getElem_cons hl
  rw [hd] at h
  obtain ⟨h2, h3⟩ := List.cons.inj h
  rw [ba_len] at hl
  refine ⟨by omega, ?_, ?_⟩
  · rw [← bt_at s i hl, ← h2]
    simp
    rfl
  · rw [show (i + 1).toNat = i.toNat + 1 by omega]
    exact h3
theorem byte_range (b : UInt8) : (0 : Int) ≤ (b.toNat : Int) ∧ (b.toNat : Int) ≤ 255 := by have := b.toNat_lt; omega
theorem Ev.get {α : Type} {g : Nat → Option α} {r : α} (h : Ev g r) : ∃ k, g k = some r := h.rounds
theorem wf_u8 {n : Int} (h : (Lit.int .u8 n).wf = true) : 0 ≤ n ∧ n ≤ 255 := by
  have h1 : IntKind.u8.min = 0 := by decide
  have h2 : IntKind.u8.max = 255 := by decide
  simp only [Lit.wf, Bool.and_eq_true, decide_eq_true_eq] at h
  omega
theorem wf_i64 {n : Int} (h : (Lit.int .i64 n).wf = true) : -9223372036854775808 ≤ n ∧ n ≤ 9223372036854775807 := by
  have h1 : IntKind.i64.min = -9223372036854775808 := by decide
  have h2 : IntKind.i64.max = 9223372036854775807 := by decide
  simp only [Lit.wf, Bool.and_eq_true, decide_eq_true_eq] at h
  omega
theorem lscan_nil {α : Type} {xs : List α} {i : Int} (h0 : 0 ≤ i) (h1 : i ≤ xs.length) (h : xs.drop i.toNat = []) : i = xs.length := by
  have : xs.length ≤ i.toNat := by simpa using h
  omega
theorem lscan_cons {α : Type} {xs : List α} {i : Int} {x : α} {l : List α} (h0 : 0 ≤ i) (h : xs.drop i.toNat = x :: l) : i < xs.length ∧ (∀ d : α, xs.getD i.toNat d = x) ∧ xs.drop (i + 1).toNat = l := by
  have hl : i.toNat < xs.length := by
    rcases Nat.lt_or_ge i.toNat xs.length with h' | h'
    · exact h'
    · rw [List.drop_of_length_le h'] at h; cases h
  have hd := List.drop_eq_getElem_cons hl
  rw [hd] at h
  obtain ⟨h2, h3⟩ := List.cons.inj h
  refine ⟨by omega, fun d => ?_, ?_⟩
  · rw [List.getD_eq_getElem?_getD, List.getElem?_eq_getElem hl]; exact h2
  · rw [show (i + 1).toNat = i.toNat + 1 by omega]; exact h3
theorem rdOf_get {α : Type} {xs : List α} {i : Int} {x d : α} (h : ∀ d : α, xs.getD i.toNat d = x) : rdOf d xs i = x := h d

end Go.Proofs.YtmmlacbcolfngaaDoor.Q
