/- What the law BodyLimits needs, part 5: the runner over a plain memory, words, the functions that it reaches, each by its own contract; for the inputs that each theorem names. -/
import Derived.Test.YtdfgdpjlbcnkfaaDoorBodyLimitsP4
namespace Go.Proofs.YtdfgdpjlbcnkfaaDoor.Q
open Go Go.Proofs.YtdfgdpjlbcnkfaaDoorAbs Go.Proofs Go.RowKit Go.Proofs.YtdfgdpjlbcnkfaaDoorW.PrintWords
set_option linter.unusedVariables false
set_option linter.unusedSimpArgs false
theorem turnstilelaw13_BodyLimits.calls (A0 : Option Addr) (c0 : Nat) (l0 : List Int) (z1 : Int) (w : World) (hr0 : Kd.C (Kd.int .u8) w A0 l0.length l0) (hc0 : l0.length ≤ c0)
    (hE : GlobE w) (hG : 7 < w.heap.size) (hp : l0.length ≤ 1048576 ∧ ∀ x ∈ l0, 0 ≤ x ∧ x < 256) :
    Calls Tryd.prog 6 #[.slice A0 l0.length c0, .int .i64 z1] w fun e w' => e = .returned (.bool true) ∧ Below w.heap.size w w' := by
  have st0 := startE hE hG
  obtain ⟨ρ, hle, st, hv⟩ := st0.row 1 (l0.map (Value.int .u8)) A0 l0.length c0 hc0 (by simp) (row_leaf hr0)
  have hlen : (l0.map fun x => x.toNat.toUInt8).length = l0.length := by simp
  refine st.law prims2_sim mixed rfl (xs := #[.slice (some ⟨8, 0, some 0⟩) l0.length (UNK + 1), .int .i64 z1]) (VRL.cons hv (VRL.cons (VR.scalar rfl) (VRL.nil _))) ?_
  rw [← hlen]
  refine limits_walk prims2_ok (xs := l0.map fun x => x.toNat.toUInt8) ⟨_, _, rfl, fun q => (by cases q), fun _ => ⟨8, 0, 0, u8v (l0.map fun x => x.toNat.toUInt8), 0, false, 0, rfl, .inl rfl, ?_, fun q => (by cases q), ?_, ?_⟩⟩ (by rw [hlen]; exact hp.1) ?_ ?_ ?_ ?_
  · rw [← u8_of l0 hp.2]; simp [St.theirs, St.start]
  · rw [List.drop_zero]
    exact List.take_of_length_le (by simp [u8v])
  · simp [St.theirs, St.start]
  · simp [St.theirs, St.start]
  · simp [St.theirs, St.start, glE, geB]
  · simp [St.theirs, St.start]
  · intro S'; rfl
end Go.Proofs.YtdfgdpjlbcnkfaaDoor.Q
