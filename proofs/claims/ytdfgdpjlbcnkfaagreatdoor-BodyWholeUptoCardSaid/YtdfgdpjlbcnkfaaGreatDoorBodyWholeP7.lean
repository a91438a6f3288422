/- What the law BodyWhole needs, part 7: the runner over a plain memory, words, the functions that it reaches, each by its own contract; for the inputs that each theorem names. -/
import Derived.Test.YtdfgdpjlbcnkfaaGreatDoorBodyWholeP6
namespace Go.Proofs.YtdfgdpjlbcnkfaaGreatDoor.Q
open Go Go.Proofs.YtdfgdpjlbcnkfaaGreatDoorAbs Go.Proofs Go.RowKit Go.Proofs.YtdfgdpjlbcnkfaaGreatDoorW.PrintWords
set_option linter.unusedVariables false
set_option linter.unusedSimpArgs false
theorem turnstilelaw13_BodyWhole.calls (x0 x1 : Int) (z1 : Int) (A0 : Option Addr) (c0 : Nat) (l0 : List Int) (w : World) (hr0 : Kd.C (Kd.int .u8) w A0 l0.length l0) (hc0 : l0.length ≤ c0)
    (hE : GlobE w) (hG : 4 < w.heap.size) (hp : (l0.length ≤ 1048576 ∧ ∀ x ∈ l0,0 ≤ x ∧ x < 256) ∧ z1 ≤ 9223372036854775807) :
    Calls Tryz.prog 3 #[.agg #[.int .i64 x0,.int .i64 x1],.int .i64 z1,.slice A0 l0.length c0] w fun e w'=>e = .returned (.bool true) ∧ Below w.heap.size w w':=by
  have st0:=startE hE hG
  obtain ⟨ρ,hle,st,hv⟩:=st0.row 1 (l0.map (Value.int .u8)) A0 l0.length c0 hc0 (by simp) (row_leaf hr0)
  have hlen : (l0.map fun x=>x.toNat.toUInt8).length = l0.length:=by simp
  refine st.law prims2_sim mixed rfl (xs:=#[.agg #[.int .i64 x0,.int .i64 x1],.int .i64 z1,.slice (some ⟨5,0,some 0⟩) l0.length (UNK + 1)]) (VRL.cons (VR.scalar (by simp [scalar,leaf])) (VRL.cons (VR.scalar rfl) (VRL.cons hv (VRL.nil _)))) ?_
  rw [← hlen]
  refine whole_walk prims2_ok (xs:=l0.map fun x=>x.toNat.toUInt8) ⟨_,_,rfl,fun q=>(by cases q),fun _=>⟨5,0,0,u8v (l0.map fun x=>x.toNat.toUInt8),0,false,0,rfl,.inl rfl,?_,fun q=>(by cases q),?_,?_⟩⟩ (by rw [hlen];have:=hp.1.1;omega) hp.2 ?_ ?_ ?_
  · rw [← u8_of l0 hp.1.2];simp [St.theirs,St.start]
  · rw [List.drop_zero]
    exact List.take_of_length_le (by simp [u8v])
  · simp [St.theirs,St.start]
  · simp [St.theirs,St.start,glE,geB]
  · simp [St.theirs,St.start]
  · intro S';rfl
end Go.Proofs.YtdfgdpjlbcnkfaaGreatDoor.Q
