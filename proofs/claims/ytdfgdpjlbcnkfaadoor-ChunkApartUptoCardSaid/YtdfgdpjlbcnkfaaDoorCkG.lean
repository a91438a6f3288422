/- The chunk reader on the runner: its functions, the law that feeds it, the plain part; for the inputs that each theorem names. -/
import Derived.Test.YtdfgdpjlbcnkfaaDoorCkH
import Derived.Lib.LaidU8
import Derived.MakeChecks
import Derived.LaidHandle
import Derived.Test.YtdfgdpjlbcnkfaaDoorWWords
namespace Go.Proofs.YtdfgdpjlbcnkfaaDoor.Q
open Go Go.Proofs.YtdfgdpjlbcnkfaaDoorAbs Go.Proofs Go.RowKit Go.Proofs.YtdfgdpjlbcnkfaaDoorW.PrintWords
set_option linter.unusedVariables false
set_option linter.unusedSimpArgs false
/-- What the world's tables hold. -/
def TabMet (w : World) : Prop := ∀ (j : Nat) (v : Value), tab64[j]? = some v → w.cell? ⟨6, j, none⟩ = some v
theorem u8_of (l : List Int) (h : ∀ x ∈ l, 0 ≤ x ∧ x < 256) : l.map (Value.int .u8) = u8v (l.map fun x => x.toNat.toUInt8) := by
  simp only [u8v, List.map_map]
  refine List.map_congr_left fun x hx => ?_
  obtain ⟨h1, h2⟩ := h x hx
  simp only [Function.comp]
  congr 1
  rw [Nat.toUInt8_eq, UInt8.toNat_ofNat']
  omega
theorem row_cells {α : Type} {d : Kd α} {f : α → Value} {w : World} {A : Option Addr} {l : List α} (hsz : d.sz = 1) (hK : ∀ x c, d.K w x c → c = [f x]) (h : Kd.C d w A l.length l) : 0 < l.length → ∃ ad, A = some ad ∧ ∀ (j : Nat) (v : Value), (l.map f)[j]? = some v → w.cell? (ad.add j) = some v := fun hp => by
  obtain ⟨ad, e, hc⟩ := h.2.2 hp
  refine ⟨ad, e, fun j v hj => ?_⟩
  rw [List.getElem?_map] at hj
  obtain ⟨x, hx, rfl⟩ := Option.map_eq_some_iff.1 hj
  obtain ⟨c, h1, h2, h3⟩ := hc j x hx
  have := h3 0 (f x) (by rw [hK x c h2]; rfl)
  rwa [hsz, Nat.mul_one, Nat.add_zero] at this
theorem start64 {w : World} (hT : TabMet w) (hG : 7 < w.heap.size) : Go.Proofs.YtdfgdpjlbcnkfaaDoorAbs.Start Tryd.prog (Ren.start 7) (St.start 7 gl64) w := by
  have st0 : Go.Proofs.YtdfgdpjlbcnkfaaDoorAbs.Start Tryd.prog (Ren.start Tryd.prog.globals.size) (St.start Tryd.prog.globals.size gl64) w := by
    refine start0 gl64 (by rw [nglob]; exact hG) fun g cs hg hgl j v hj => ?_
    unfold gl64 at hgl
    split at hgl
    · cases hgl
      refine ⟨v, hT j v hj, .leaf _ ?_⟩
      have : tab64.all leaf = true := by decide
      rw [List.all_eq_true] at this
      exact this v (List.mem_of_getElem? hj)
    · cases hgl
  rwa [nglob] at st0
theorem row_leaf {w : World} {ρ : Ren} {k : IntKind} {A : Option Addr} {l : List Int} (h : Kd.C (Kd.int k) w A l.length l) (hp : 0 < l.length) : ∃ ad, A = some ad ∧ ∀ (j : Nat) (v : Value), (l.map (Value.int k))[j]? = some v → ∃ v', w.cell? (ad.add j) = some v' ∧ VR ρ v v' := by
  obtain ⟨ad, e, hc⟩ := row_cells (f := Value.int k) rfl (fun x c hk => hk) h hp
  refine ⟨ad, e, fun j v hj => ⟨v, hc j v hj, .leaf _ ?_⟩⟩
  rw [List.getElem?_map] at hj
  obtain ⟨x, _, rfl⟩ := Option.map_eq_some_iff.1 hj
  rfl
end Go.Proofs.YtdfgdpjlbcnkfaaDoor.Q
