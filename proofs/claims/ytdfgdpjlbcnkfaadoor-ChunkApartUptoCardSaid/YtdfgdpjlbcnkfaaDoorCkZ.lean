/- The chunk reader on the runner: its functions, the law that feeds it, the plain part; for the inputs that each theorem names. -/
import Derived.Test.YtdfgdpjlbcnkfaaDoorCkY
import Derived.Test.YtdfgdpjlbcnkfaaDoorCkK
-- UF: CkFacts
namespace Go.Proofs.YtdfgdpjlbcnkfaaDoor.Q
open Go Go.Proofs.YtdfgdpjlbcnkfaaDoorAbs Go.Proofs
set_option linter.unusedVariables false
set_option linter.unusedSimpArgs false
set_option maxRecDepth 100000
set_option maxHeartbeats 4000000
attribute [local irreducible] Go.Proofs.YtdfgdpjlbcnkfaaDoorAbs.O Go.Proofs.YtdfgdpjlbcnkfaaDoorAbs.W Go.Proofs.YtdfgdpjlbcnkfaaDoorAbs.C Go.Proofs.YtdfgdpjlbcnkfaaDoorAbs.OK Go.Proofs.YtdfgdpjlbcnkfaaDoorAbs.OKF Go.Proofs.YtdfgdpjlbcnkfaaDoorAbs.OKT Go.Proofs.YtdfgdpjlbcnkfaaDoorAbs.then_ Go.Proofs.YtdfgdpjlbcnkfaaDoorAbs.inBlock_ Go.Proofs.YtdfgdpjlbcnkfaaDoorAbs.bodyQ Go.Proofs.YtdfgdpjlbcnkfaaDoorAbs.Cont
section
variable {I : Prims} {S : St} {Q : Value → St → Prop}
theorem byteF_inv {r : PRd} {c : UInt8} (hi : RInv r) (he : r.err = none) : RInv (byteF r c) := by
  unfold byteF
  split
  · have := (hi.dat (by assumption)).1
    exact dataF_inv hi he (by assumption) (by omega)
  · exact stepF_inv hi he (by assumption)
theorem feed_inv : ∀ (xs : List UInt8) (r : PRd), RInv r → RInv (feedF r xs).2.2
  | [], r, h => h
  | c :: l, r, h => by
    unfold feedF
    split
    · exact h
    · rename_i hn
      exact feed_inv l _ (byteF_inv h (Decidable.byContradiction fun q => hn (.inl q)))
theorem feed_le : ∀ (xs : List UInt8) (r : PRd), (feedF r xs).1 ≤ xs.length
  | [], r => Nat.le_refl _
  | c :: l, r => by
    unfold feedF
    split
    · exact Nat.zero_le _
    · have := feed_le l (byteF r c)
      simp only [List.length_cons]
      omega
theorem feed_append : ∀ (xs ys : List UInt8) (r : PRd), feedF r (xs ++ ys) = if (feedF r xs).1 < xs.length then feedF r xs else
    (xs.length + (feedF (feedF r xs).2.2 ys).1, (feedF r xs).2.1 ++ (feedF (feedF r xs).2.2 ys).2.1, (feedF (feedF r xs).2.2 ys).2.2)
  | [], ys, r => by simp [feedF]
  | c :: l, ys, r => by
    rw [List.cons_append]
    by_cases h : r.err ≠ none ∨ r.state = 8
    · unfold feedF
      rw [if_pos h, if_pos h]
      simp
    · have ih := feed_append l ys (byteF r c)
      have e1 : feedF r (c :: (l ++ ys)) = ((feedF (byteF r c) (l ++ ys)).1 + 1, outF r c ++ (feedF (byteF r c) (l ++ ys)).2.1, (feedF (byteF r c) (l ++ ys)).2.2) := by
        conv => lhs; unfold feedF
        rw [if_neg h]
      have e2 : feedF r (c :: l) = ((feedF (byteF r c) l).1 + 1, outF r c ++ (feedF (byteF r c) l).2.1, (feedF (byteF r c) l).2.2) := by
        conv => lhs; unfold feedF
        rw [if_neg h]
      rw [e1, e2, ih]
      simp only [List.length_cons]
      by_cases hl : (feedF (byteF r c) l).1 < l.length
      · rw [if_pos hl, if_pos (by omega)]
      · rw [if_neg hl, if_neg (by omega)]
        simp only [List.append_assoc, Prod.mk.injEq, and_true]
        omega
theorem step_len (r : PRd) (c : UInt8) (h : r.state ≠ 3) : (byteF r c).len = r.len ∧ (byteF r c).most = r.most := by
  have a1 : ∀ k, (sizeF r k).len = r.len ∧ (sizeF r k).most = r.most := fun k => by grind [sizeF]
  have a2 : ∀ k, (extF r k).len = r.len ∧ (extF r k).most = r.most := fun k => by grind [extF]
  have a3 : ∀ k, (begF r k).len = r.len ∧ (begF r k).most = r.most := fun k => by grind [begF]
  have a4 : ∀ k w n, (mustF r k w n).len = r.len ∧ (mustF r k w n).most = r.most := fun k w n => by grind [mustF]
  have a5 : (endsF r c).len = r.len ∧ (endsF r c).most = r.most := by grind [endsF]
  have a6 : (trailerF r c).len = r.len ∧ (trailerF r c).most = r.most := by grind [trailerF]
  unfold byteF
  rw [if_neg h]
  unfold stepF
  split
  · exact a1 _
  split
  · exact a2 _
  split
  · exact a3 _
  split
  · exact a4 _ _ _
  split
  · exact a4 _ _ _
  · exact a6
theorem feed_len : ∀ (xs : List UInt8) (r : PRd), (feedF r xs).2.2.len = r.len + (feedF r xs).2.1.length ∧ (feedF r xs).2.2.most = r.most
  | [], r => by simp [feedF]
  | c :: l, r => by
    unfold feedF
    split
    · simp
    · have ih := feed_len l (byteF r c)
      by_cases h3 : r.state = 3
      · simp only [outF, if_pos h3, List.length_append, List.length_cons, List.length_nil, ih]
        simp only [byteF, if_pos h3, dataF, and_true]
        omega
      · have := step_len r c h3
        simp only [outF, if_neg h3, List.nil_append, ih, this, and_self]
/-- The text of bytes. -/
theorem conv_any {v : Value} {xs : List UInt8} (hO : Own 5 1 S v xs.length (u8v xs)) : alt (aconvert Tryd.prog S 22 9 v) (lift S (cvX Tryd.prog 22 9 v)) = some (.string ⟨xs.toArray⟩, S) := by
  rcases hO.2.2 with ⟨rfl, h0⟩ | ⟨b, m, rfl, h1, h2, h3, h4⟩
  · have : xs = [] := List.length_eq_zero_iff.1 h0
    subst this
    have e1 : aconvert Tryd.prog S 22 9 (.slice none 0 0) = none := by simp [aconvert, u22, u9]
    have e2 : cvX Tryd.prog 22 9 (.slice none 0 0) = some (.string ⟨#[]⟩) := by kernel_rfl
    rw [e1, e2]
    rfl
  · have hl : (u8v xs).length = xs.length := by simp [u8v]
    rw [hl] at h2 ⊢
    rw [conv_own (o := 0) (k := xs.length) h1 h2 (by omega)]
    simp [alt]
end
end Go.Proofs.YtdfgdpjlbcnkfaaDoor.Q
