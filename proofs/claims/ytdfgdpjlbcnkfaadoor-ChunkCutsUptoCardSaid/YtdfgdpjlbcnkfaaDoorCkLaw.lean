/- The chunk reader on the runner: its functions, the law that feeds it, the plain part; for the inputs that each theorem names. -/
import Derived.Test.YtdfgdpjlbcnkfaaDoorCkH
import Derived.Lib.LaidU8
import Derived.MakeChecks
import Derived.LaidHandle
import Derived.Test.YtdfgdpjlbcnkfaaDoorWWords
namespace Go.Proofs.YtdfgdpjlbcnkfaaDoor.Q
open Go Go.Proofs.YtdfgdpjlbcnkfaaDoorAbs Go.Proofs Go.RowKit Go.Proofs.YtdfgdpjlbcnkfaaDoorW.PrintWords
set_option linter.unusedVariables false
set_option linter.unusedSimpArgs false
/-- What the world's tables hold. -/
def TabMet (w : World) : Prop := ∀ (j : Nat) (v : Value), tab64[j]? = some v → w.cell? ⟨6, j, none⟩ = some v
theorem u8_of (l : List Int) (h : ∀ x ∈ l, 0 ≤ x ∧ x < 256) : l.map (Value.int .u8) = u8v (l.map fun x => x.toNat.toUInt8) := by
  simp only [u8v, List.map_map]
  refine List.map_congr_left fun x hx => ?_
  obtain ⟨h1, h2⟩ := h x hx
  simp only [Function.comp]
  congr 1
  rw [Nat.toUInt8_eq, UInt8.toNat_ofNat']
  omega
theorem row_cells {α : Type} {d : Kd α} {f : α → Value} {w : World} {A : Option Addr} {l : List α} (hsz : d.sz = 1) (hK : ∀ x c, d.K w x c → c = [f x]) (h : Kd.C d w A l.length l) : 0 < l.length → ∃ ad, A = some ad ∧ ∀ (j : Nat) (v : Value), (l.map f)[j]? = some v → w.cell? (ad.add j) = some v := fun hp => by
  obtain ⟨ad, e, hc⟩ := h.2.2 hp
  refine ⟨ad, e, fun j v hj => ?_⟩
  rw [List.getElem?_map] at hj
  obtain ⟨x, hx, rfl⟩ := Option.map_eq_some_iff.1 hj
  obtain ⟨c, h1, h2, h3⟩ := hc j x hx
  have := h3 0 (f x) (by rw [hK x c h2]; rfl)
  rwa [hsz, Nat.mul_one, Nat.add_zero] at this
theorem turnstilelaw12_ChunkCuts.calls (A0 : Option Addr) (c0 : Nat) (l0 : List Int) (A1 : Option Addr) (c1 : Nat) (l1 : List Int) (z2 : Int) (w : World) (hr0 : Kd.C (Kd.int .u8) w A0 l0.length l0) (hc0 : l0.length ≤ c0) (hr1 : Kd.C (Kd.int .i64) w A1 l1.length l1) (hc1 : l1.length ≤ c1)
    (hT : TabMet w) (hG : 7 < w.heap.size) (hp : (l0.length ≤ 1048576 ∧ ∀ x ∈ l0, 0 ≤ x ∧ x < 256) ∧ l1.length ≤ 1048576) :
    Calls Tryd.prog 4 #[.slice A0 l0.length c0, .slice A1 l1.length c1, .int .i64 z2] w fun e w' => e = .returned (.bool true) ∧ Below w.heap.size w w' := by
  have st0 : Go.Proofs.YtdfgdpjlbcnkfaaDoorAbs.Start Tryd.prog (Ren.start Tryd.prog.globals.size) (St.start Tryd.prog.globals.size gl64) w := by
    refine start0 gl64 (by rw [nglob]; exact hG) fun g cs hg hgl j v hj => ?_
    unfold gl64 at hgl
    split at hgl
    · cases hgl
      refine ⟨v, hT j v hj, .leaf _ ?_⟩
      have : tab64.all leaf = true := by decide
      rw [List.all_eq_true] at this
      exact this v (List.mem_of_getElem? hj)
    · cases hgl
  rw [nglob] at st0
  have hrow : ∀ {ρ : Ren} {k : IntKind} {A : Option Addr} {l : List Int}, Kd.C (Kd.int k) w A l.length l → 0 < l.length → ∃ ad, A = some ad ∧ ∀ (j : Nat) (v : Value), (l.map (Value.int k))[j]? = some v → ∃ v', w.cell? (ad.add j) = some v' ∧ VR ρ v v' := by
    intro ρ k A l h hp
    obtain ⟨ad, e, hc⟩ := row_cells (f := Value.int k) rfl (fun x c hk => hk) h hp
    refine ⟨ad, e, fun j v hj => ⟨v, hc j v hj, .leaf _ ?_⟩⟩
    rw [List.getElem?_map] at hj
    obtain ⟨x, _, rfl⟩ := Option.map_eq_some_iff.1 hj
    rfl
  obtain ⟨ρ, hle, st, hv⟩ := st0.row 1 (l0.map (Value.int .u8)) A0 l0.length c0 hc0 (by simp) (hrow hr0)
  obtain ⟨ρ2, hle2, st2, hv2⟩ := st.row 1 (l1.map (Value.int .i64)) A1 l1.length c1 hc1 (by simp) (hrow hr1)
  have hv' := hv.mono hle2
  have hlen : (l0.map fun x => x.toNat.toUInt8).length = l0.length := by simp
  refine st2.law prims1_sim mixed rfl (xs := #[.slice (some ⟨8, 0, some 0⟩) l0.length (UNK + 1), .slice (some ⟨9, 0, some 0⟩) l1.length (UNK + 1), .int .i64 z2]) (VRL.cons hv' (VRL.cons hv2 (VRL.cons (VR.scalar rfl) (VRL.nil _)))) ?_
  refine law_walk prims1_ok (xs := l0.map fun x => x.toNat.toUInt8) (cs := l1) ⟨_, _, by rw [hlen], fun q => (by cases q), fun _ => ⟨8, 0, 0, u8v (l0.map fun x => x.toNat.toUInt8), 0, false, 0, rfl, rfl, ?_, fun q => (by cases q), ?_, ?_⟩⟩ ⟨_, _, rfl, fun _ => ⟨9, 0, 0, l1.map (Value.int .i64), 0, 0, rfl, ?_, fun i x hx => by rw [Nat.zero_add, List.getElem?_map, hx]; rfl, ?_⟩⟩ hp.2 (by rw [hlen]; exact hp.1.1) ?_ ?_ ?_ ?_
  · rw [← u8_of l0 hp.1.2]; simp [St.theirs, St.start]
  · rw [List.drop_zero, hlen]
    exact List.take_of_length_le (by simp [u8v])
  · simp [St.theirs, St.start]
  · simp [St.theirs, St.start]
  · simp [St.theirs, St.start]
  · intro i hi
    cases hi
    simp [St.theirs, St.start]
  · simp [St.theirs, St.start, gl64]
  · simp [St.theirs, St.start]
  · intro S'; rfl
end Go.Proofs.YtdfgdpjlbcnkfaaDoor.Q
