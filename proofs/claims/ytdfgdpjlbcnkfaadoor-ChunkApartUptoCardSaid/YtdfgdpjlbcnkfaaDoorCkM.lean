/- The chunk reader on the runner: its functions, the law that feeds it, the plain part; for the inputs that each theorem names. -/
import Derived.Test.YtdfgdpjlbcnkfaaDoorCkB
import Derived.Test.YtdfgdpjlbcnkfaaDoorCkK
-- UF: CkFacts
namespace Go.Proofs.YtdfgdpjlbcnkfaaDoor.Q
open Go Go.Proofs.YtdfgdpjlbcnkfaaDoorAbs Go.Proofs
set_option linter.unusedVariables false
set_option linter.unusedSimpArgs false
set_option maxRecDepth 100000
set_option maxHeartbeats 4000000
attribute [local irreducible] Go.Proofs.YtdfgdpjlbcnkfaaDoorAbs.O Go.Proofs.YtdfgdpjlbcnkfaaDoorAbs.W Go.Proofs.YtdfgdpjlbcnkfaaDoorAbs.C Go.Proofs.YtdfgdpjlbcnkfaaDoorAbs.OK Go.Proofs.YtdfgdpjlbcnkfaaDoorAbs.OKF Go.Proofs.YtdfgdpjlbcnkfaaDoorAbs.OKT Go.Proofs.YtdfgdpjlbcnkfaaDoorAbs.then_ Go.Proofs.YtdfgdpjlbcnkfaaDoorAbs.inBlock_ Go.Proofs.YtdfgdpjlbcnkfaaDoorAbs.bodyQ Go.Proofs.YtdfgdpjlbcnkfaaDoorAbs.Cont
structure HW (I : Prims) : Prop extends HI I where
  works : ∀ (S : St) (Q : Value → St → Prop), S.get 6 = some ⟨tab64, 0, false, 0⟩ → Q (.bool true) S → C Tryd.prog I 14 #[] S Q
section
variable {I : Prims} {S : St} {Q : Value → St → Prop}
theorem fresh_inv {most : Int} (h0 : ¬ (most < 0 ∨ 1099511627776 < most)) : RInv (CR.fresh [] [] most) :=
  ⟨by simp only [CR.fresh]; omega, by simp only [CR.fresh]; omega, by simp [CR.fresh], by simp [CR.fresh], by simp [CR.fresh], by simp [CR.fresh], by simp [CR.fresh], by simp [CR.fresh], by simp [CR.fresh], by simp [CR.fresh], by simp [CR.fresh]⟩
theorem fresh_rd {S : St} {b : Nat} {most : Int} (hb : S.get b = some ⟨(CR.fresh (.slice none 0 0) (.slice none 0 0) most).cells, 62, true, 0⟩) (hn : b < S.next) : Rd S b (CR.fresh [] [] most) (.slice none 0 0) (.slice none 0 0) 0 :=
  ⟨hb, Nat.zero_le _, hn, Own.nil _ _ _, Own.nil _ _ _, by simp [blkOf], by simp [blkOf], .inl rfl⟩
theorem sl_own {S : St} {v : Value} {xs : List UInt8} (h : Own 5 1 S v xs.length (u8v xs)) : Sl S v xs := by
  have hl : (u8v xs).length = xs.length := by simp [u8v]
  rcases h.2.2 with ⟨rfl, h0⟩ | ⟨b, m, rfl, h1, h2, h3, h4⟩
  · exact ⟨none, 0, by rw [h0], fun _ => rfl, fun q => absurd (List.length_eq_zero_iff.1 h0) q⟩
  · rw [hl] at h2 ⊢
    exact ⟨_, _, rfl, fun q => (by cases q), fun _ => ⟨b, 0, xs.length, u8v xs, 5, true, m, rfl, .inl rfl, h1, fun _ => ⟨h2, by omega⟩, by rw [List.drop_zero, ← hl, List.take_length], h3⟩⟩
theorem pr_bool (n : Nat) (t : TypeId) (a c : Bool) (h : Tryd.prog.underlying t = some .bool) : pureRun Tryd.prog (Op.equalIn (n + 1) t (.bool a) (.bool c)) = some (a == c) := by
  rw [Op.equalIn, pureRun_bind, pr_und h]
  rfl
theorem beql4 (x y : Operand) (a b : Bool) : binX Tryd.prog .eql 4 x y (.bool a) (.bool b) = some (.bool (a == b)) := by
  have e : pureRun Tryd.prog (Op.equalIn 10000 4 (.bool a) (.bool b)) = some (a == b) := pr_bool 9999 4 a b u4
  simp [binX, abinOp, anil, scalar, leaf, eqGuard, binOp, Op.equal, Op.maxDepth, pureRun_bind, pureRun_pure, pr_map, e]
theorem sl_sub {S : St} {b o L c k j : Nat} {xs : List UInt8} (h : Sl S (.slice (some ⟨b, o, some L⟩) xs.length c) xs) (hcU : c = UNK + 1) (hk : k + j ≤ xs.length) : Sl S (.slice (some ⟨b, o + k, some L⟩) j c) ((xs.drop k).take j) := by
  have hl : ((xs.drop k).take j).length = j := by simp; omega
  obtain ⟨a, c', e, h0, h1⟩ := h
  cases e
  refine ⟨_, _, by rw [hl], fun q => (by cases q), fun hne => ?_⟩
  have hj : 0 < j := by
    rcases Nat.eq_zero_or_pos j with q | q
    · subst q; simp at hne
    · exact q
  obtain ⟨b', o', L', cs, el, own, m, e1, e2, e3, e4, e5, e6⟩ := h1 (fun q => by rw [q] at hk; simp at hk; omega)
  cases e1
  refine ⟨b, o + k, L, cs, el, own, m, rfl, .inl hcU, e3, fun q => ⟨(e4 q).1, by have := (e4 q).2; rw [hl]; omega⟩, ?_, e6⟩
  rw [hl, ← List.drop_drop]
  have : u8v ((xs.drop k).take j) = ((u8v xs).drop k).take j := by simp [u8v, List.map_drop, List.map_take]
  rw [this, ← e5, List.drop_take, List.take_take, Nat.min_eq_left (by omega)]
theorem feed_out : ∀ (xs : List UInt8) (r : PRd), (feedF r xs).2.1.length ≤ xs.length
  | [], r => Nat.le_refl _
  | c :: l, r => by
    unfold feedF
    split
    · simp
    · have := feed_out l (byteF r c)
      simp only [List.length_append, List.length_cons]
      have : (outF r c).length ≤ 1 := by unfold outF; split <;> simp
      omega
theorem aslice_to {b o n j : Nat} {s : Option Nat} : ∀ hj : j ≤ n, aslice Tryd.prog 22 (.slice (some ⟨b, o, s⟩) n (UNK + 1)) none (some (.int .i64 (j : Int))) none = some (.slice (some ⟨b, o, s⟩) j (UNK + 1)) := fun hj => by
  rw [aslice_h u22 sz5 (by omega) (by omega)]; simp
theorem aslice_from {b o n j : Nat} {s : Option Nat} (hj : j ≤ n) : aslice Tryd.prog 22 (.slice (some ⟨b, o, s⟩) n (UNK + 1)) (some (.int .i64 (j : Int))) none none = some (.slice (some ⟨b, o + j, s⟩) (n - j) (UNK + 1)) := by
  rw [aslice_l u22 sz5 (by omega) (by omega)]; simp
end
end Go.Proofs.YtdfgdpjlbcnkfaaDoor.Q
