/- The chunk reader on the runner: its functions, the law that feeds it, the plain part; for the inputs that each theorem names. -/
import Derived.Test.YtdfgdpjlbcnkfaaDoorCkM
import Derived.Test.YtdfgdpjlbcnkfaaDoorCkP
import Derived.Test.YtdfgdpjlbcnkfaaDoorCkK
import Derived.Test.YtdfgdpjlbcnkfaaDoorAbsB
namespace Go.Proofs.YtdfgdpjlbcnkfaaDoor.Q
open Go Go.Proofs.YtdfgdpjlbcnkfaaDoorAbs Go.Proofs Go.RowKit
set_option linter.unusedVariables false
set_option linter.unusedSimpArgs false
theorem mixed : Tryd.prog.follows .mixedOrders = true := by kernel_rfl
open Classical in
/-- The law's head, by its reckoning. -/
noncomputable def pWorks (_ : Nat) (xs : Array Value) (S : St) : Option Value := if xs = #[] ∧ S.get 6 = some ⟨tab64, 0, false, 0⟩ then some (.bool true) else none
theorem isTrue_some {r : Option (Value × St)} (h : isTrue r = true) : ∃ S, r = some (.bool true, S) := by
  unfold isTrue at h
  split at h
  · exact ⟨_, rfl⟩
  · cases h
theorem gl64_ok {S : St} (h6 : S.get 6 = some ⟨tab64, 0, false, 0⟩) : ∀ g cs, g ≤ Tryd.prog.globals.size → gl64 g = some cs → cs.all leaf = true ∧ ∃ el m, S.get g = some ⟨cs, el, false, m⟩ := by
  intro g cs _ hg
  unfold gl64 at hg
  split at hg
  · cases hg
    exact ⟨by decide, _, _, h6⟩
  · cases hg
theorem still_works (k : Nat) : Still Tryd.prog 14 (pWorks k) := ⟨fun xs S v h ρ w ys hrel hxs => by
  unfold pWorks at h
  split at h
  case isFalse => cases h
  rename_i hc
  obtain ⟨rfl, h6⟩ := hc
  cases h
  obtain ⟨S1, hk⟩ := isTrue_some works_run
  have hy : ys = #[] := by
    have := hxs.1
    simp at this
    exact Array.eq_empty_of_size_eq_zero this.symm
  subst hy
  refine (calls_of_run (u := .bool true) prims0_sim mixed rfl (by rw [nglob]; exact hk) hrel (gl64_ok h6)).mono ?_
  rintro e w' ⟨rfl, hb⟩
  exact ⟨_, rfl, VR.scalar rfl, hb⟩⟩
noncomputable def primL1 : List (FuncId × (Nat → Array Value → St → Option Value)) := [(68, pIdxS), (60, pIdxB), (88, pIdx1), (55, pTrim), (14, pWorks)]
noncomputable def prims1 : Prims := stills primL1
theorem prims1_sim : PrimSim Tryd.prog prims1 := stills_sim fun x hx k => by
  simp only [primL1, List.mem_cons, List.not_mem_nil, or_false] at hx
  rcases hx with rfl | rfl | rfl | rfl | rfl
  · exact still_idxS k
  · exact still_idxB k
  · exact still_idx1 k
  · exact still_trim k
  · exact still_works k
theorem nums8_u8v : ∀ l : List UInt8, nums8 (u8v l) = some (l.map fun b => (b.toNat : Int))
  | [] => rfl
  | b :: l => by
    show (nums8 (u8v l)).map _ = _
    rw [nums8_u8v l]
    rfl
theorem bytes_u8v (l : List UInt8) : Lib.bytesOf (l.map fun b => (b.toNat : Int)) = l := by
  simp [Lib.bytesOf, Function.comp_def]
theorem u8v_leaf (l : List UInt8) : (u8v l).all leaf = true := by
  rw [List.all_eq_true]; intro x hx; simp only [u8v, List.mem_map] at hx; obtain ⟨_, _, rfl⟩ := hx; rfl
theorem prims1_ok : HW prims1 where
  no := fun f hf k => by
    simp only [isPrim, Bool.or_eq_false_iff, beq_eq_false_iff_ne, ne_eq] at hf
    obtain ⟨⟨⟨⟨⟨h1, h2⟩, h3⟩, h4⟩, h5⟩, h6⟩ := hf
    have : primL1.find? (fun x => x.1 == f) = none := by
      rw [List.find?_eq_none]
      intro x hx
      simp only [primL1, List.mem_cons, List.not_mem_nil, or_false] at hx
      rcases hx with rfl | rfl | rfl | rfl | rfl <;> simp <;> omega
    simp only [prims1, stills, this]
  idxS := fun s c S Q hq => C_prim ⟨0, fun k' _ => ⟨_, rfl, rfl⟩⟩ hq
  idxB := fun S v n xs c Q hO hq => by
    rcases hO.2.2 with ⟨rfl, h0⟩ | ⟨b, m, rfl, h1, h2, h3, h4⟩
    · have : xs = [] := by have := hO.1; subst h0; simpa [u8v] using this
      subst this
      exact C_prim ⟨0, fun k' _ => ⟨_, rfl, rfl⟩⟩ hq
    · have hc := cellsAt_own hO (u8v_leaf xs) Nat.one_pos
      have hne : u8v xs ≠ [] := fun e => by have := hO.1; rw [e] at this; simp at this; omega
      refine C_prim ⟨0, fun k' _ => ⟨_, rfl, ?_⟩⟩ hq
      have : pIdxB k' #[.slice (some ⟨b, 0, some (u8v xs).length⟩) n (UNK + 1), .int .u8 c] S = some (.int .i64 (Lib.indexByte xs c.toNat.toUInt8)) := by
        unfold pIdxB
        simp only [hc, Option.bind_some, if_neg hne, nums8_u8v, Option.map_some, bytes_u8v]
      exact congrArg (Option.map fun x => (x, S)) this
  idx1 := fun S v n xs b2 m c Q hO hn hb hm hq => by
    have hc := cellsAt_own hO (u8v_leaf xs) Nat.one_pos
    have hne : u8v xs ≠ [] := fun e => by have := hO.1; rw [e] at this; simp at this; omega
    have hs : cellsAt 1 S (.slice (some ⟨b2, 0, some 1⟩) 1 1) = some [.int .u8 c] := by
      simp only [cellsAt]
      rw [if_neg (by decide)]
      have : aread S ⟨b2, 0, some 1⟩ (1 * 1) = some [.int .u8 c] := by
        unfold aread
        simp only [hb]
        rw [if_pos ⟨fun _ => ⟨hm, by simp⟩, by simp⟩]
        rfl
      simp [this, leaf]
    refine C_prim ⟨0, fun k' _ => ⟨_, rfl, ?_⟩⟩ hq
    have : pIdx1 k' #[v, .slice (some ⟨b2, 0, some 1⟩) 1 1] S = some (.int .i64 (Lib.indexByte xs c.toNat.toUInt8)) := by
      unfold pIdx1
      simp only [hc, hs, Option.bind_some, if_neg hne, nums8_u8v, Option.map_some, bytes_u8v]
    exact congrArg (Option.map fun x => (x, S)) this
  trim := fun S s Q hs hq => by
    refine C_prim ⟨0, fun k' _ => ⟨_, rfl, ?_⟩⟩ hq
    have : pTrim k' #[.string s, .string ⟨#[32, 9]⟩] S = some (.string (trimB s)) := by
      unfold pTrim
      exact if_pos ⟨hs, rfl⟩
    exact congrArg (Option.map fun x => (x, S)) this
  works := fun S Q h6 hq => by
    refine C_prim ⟨0, fun k' _ => ⟨_, rfl, ?_⟩⟩ hq
    have : pWorks k' #[] S = some (.bool true) := by
      unfold pWorks
      rw [if_pos ⟨rfl, h6⟩]
    exact congrArg (Option.map fun x => (x, S)) this
end Go.Proofs.YtdfgdpjlbcnkfaaDoor.Q
