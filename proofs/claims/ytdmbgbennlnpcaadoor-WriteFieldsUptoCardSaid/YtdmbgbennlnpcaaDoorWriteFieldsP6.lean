/- What the law WriteFields needs, part 6: the runner over a plain memory, words, the functions that it reaches, each by its own contract; for the inputs that each theorem names. -/
import Derived.Test.YtdmbgbennlnpcaaDoorWriteFieldsP4
import Derived.Test.YtdmbgbennlnpcaaDoorWriteFieldsP5
namespace Go.Proofs.YtdmbgbennlnpcaaDoor.Q
open Go Go.Proofs.YtdmbgbennlnpcaaDoorAbs Go.Proofs Go.RowKit Go.Proofs.YtdmbgbennlnpcaaDoorW.PrintWords
set_option linter.unusedVariables false
set_option linter.unusedSimpArgs false
theorem turnstilelaw10_WriteFields.calls (A0 : Option Addr) (c0 : Nat) (l0 : List S50) (name value : ByteArray) (w : World) (hr0 : Kd.C k50 w A0 l0.length l0) (hc0 : l0.length ≤ c0)
    (hT : PowIs w) (hG : 6 < w.heap.size) (hp : FOk l0 ∧ name.size ≤ 1048576 ∧ value.size ≤ 1048576) :
    Calls Tryd.prog 6 #[.slice A0 l0.length c0, .agg #[.string name, .string value]] w fun e w' => e = .returned (.bool true) ∧ Below w.heap.size w w' := by
  have st0 := startP hT hG
  obtain ⟨ρ1, hle1, st1, hv1⟩ := st0.row 2 (fldv (toF l0)) A0 l0.length c0 hc0 (fldv_nil l0) (row_fld hr0)
  obtain ⟨⟨p3, p4⟩, p5, p6⟩ := hp
  have k1 := their_kept (St.start 6 glP whP) (fldv (toF l0))
  refine st1.law prims1_sim mixed rfl (xs := #[.slice (some ⟨7, 0, some 0⟩) l0.length (UNK + 2), .agg #[.string name, .string value]])
    (VRL.cons hv1 (VRL.cons (VR.agg' (VRL.cons (VR.scalar rfl) (VRL.cons (VR.scalar rfl) (VRL.nil _)))) (VRL.nil _))) ?_
  refine fld_walk prims1_ok (start_pg.kept k1) (l := toF l0) (their_sf rfl) (by rw [toF_len]; exact p3) p4 p5 p6 ?_
  intro S'; rfl
end Go.Proofs.YtdmbgbennlnpcaaDoor.Q
