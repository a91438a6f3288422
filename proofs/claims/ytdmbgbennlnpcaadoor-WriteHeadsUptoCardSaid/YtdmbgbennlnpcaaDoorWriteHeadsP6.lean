/- What the law WriteHeads needs, part 6: the runner over a plain memory, words, the functions that it reaches, each by its own contract; for the inputs that each theorem names. -/
import Derived.Test.YtdmbgbennlnpcaaDoorWriteHeadsP5
import Derived.Test.YtdmbgbennlnpcaaDoorWriteHeadsP4
namespace Go.Proofs.YtdmbgbennlnpcaaDoor.Q
open Go Go.Proofs.YtdmbgbennlnpcaaDoorAbs Go.Proofs Go.RowKit Go.Proofs.YtdmbgbennlnpcaaDoorW.PrintWords
set_option linter.unusedVariables false
set_option linter.unusedSimpArgs false
theorem turnstilelaw10_WriteHeads.calls (m t : ByteArray) (n : Int) (A0 : Option Addr) (c0 : Nat) (l0 : List S50) (st : Int) (r : ByteArray) (n' : Int) (A1 : Option Addr) (c1 : Nat) (l1 : List S50) (w : World) (hr0 : Kd.C k50 w A0 l0.length l0) (hc0 : l0.length ≤ c0) (hr1 : Kd.C k50 w A1 l1.length l1) (hc1 : l1.length ≤ c1)
    (hT : PowIs w) (hG : 6 < w.heap.size) (hp : (m.size ≤ 1048576 ∧ t.size ≤ 1048576 ∧ FOk l0) ∧ (r.size ≤ 1048576 ∧ FOk l1)) :
    Calls Tryd.prog 5 #[.agg #[.string m, .string t, .int .i64 n, .slice A0 l0.length c0], .agg #[.int .i64 st, .string r, .int .i64 n', .slice A1 l1.length c1]] w fun e w' => e = .returned (.bool true) ∧ Below w.heap.size w w' := by
  have st0 := startP hT hG
  obtain ⟨ρ1, hle1, st1, hv1⟩ := st0.row 2 (fldv (toF l0)) A0 l0.length c0 hc0 (fldv_nil l0) (row_fld hr0)
  obtain ⟨ρ2, hle2, st2, hv2⟩ := st1.row 2 (fldv (toF l1)) A1 l1.length c1 hc1 (fldv_nil l1) (row_fld hr1)
  obtain ⟨⟨p1, p2, p3, p4⟩, p5, p7, p8⟩ := hp
  have k1 := their_kept (St.start 6 glP whP) (fldv (toF l0))
  have k2 := their_kept ((St.start 6 glP whP).theirs (fldv (toF l0))) (fldv (toF l1))
  refine st2.law prims1_sim mixed rfl (xs := #[.agg #[.string m, .string t, .int .i64 n, .slice (some ⟨7, 0, some 0⟩) l0.length (UNK + 2)], .agg #[.int .i64 st, .string r, .int .i64 n', .slice (some ⟨8, 0, some 0⟩) l1.length (UNK + 2)]])
    (VRL.cons (VR.agg' (VRL.cons (VR.scalar rfl) (VRL.cons (VR.scalar rfl) (VRL.cons (VR.scalar rfl) (VRL.cons (hv1.mono hle2) (VRL.nil _)))))) (VRL.cons (VR.agg' (VRL.cons (VR.scalar rfl) (VRL.cons (VR.scalar rfl) (VRL.cons (VR.scalar rfl) (VRL.cons hv2 (VRL.nil _)))))) (VRL.nil _))) ?_
  refine heads_walk prims1_ok ((start_pg.kept k1).kept k2) (l := toF l0) (l' := toF l1) ((their_sf rfl).kept k2) p1 p2 (by rw [toF_len]; exact p3) p4 (their_sf rfl) p5 (by rw [toF_len]; exact p7) p8 ?_
  intro S'; rfl
end Go.Proofs.YtdmbgbennlnpcaaDoor.Q
