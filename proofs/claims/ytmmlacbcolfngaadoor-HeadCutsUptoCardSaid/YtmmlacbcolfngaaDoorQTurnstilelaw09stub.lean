/- What Go functions that a statement reaches come to, printed by a program of this session over the kit's printer; for all inputs at which the printed Lean function answers. -/
import Derived.Test.YtmmlacbcolfngaaDoorQ0
import Derived.Test.YtmmlacbcolfngaaDoorWLast
import Derived.Test.YtmmlacbcolfngaaDoorQHeadstub
import Derived.Lib.SlBytesConst
import Derived.Test.YtmmlacbcolfngaaDoorHRdOut
namespace Go.Proofs.YtmmlacbcolfngaaDoor.Q
open Go.RowKit Go.Proofs.YtmmlacbcolfngaaDoorW.PrintWords Go.Proofs.YtmmlacbcolfngaaDoorW.PrintLast Go.Proofs.YtmmlacbcolfngaaDoorW.PrintMore
attribute [local go_sem] max2_int min2_int max_two min_two max_three min_three max_four min_four
set_option linter.unusedVariables false
set_option linter.unusedSimpArgs false

/-! ### turnstilelaw09_sure: function 18 -/
def turnstilelaw09_sure.f : Option (Bool) := some true
theorem turnstilelaw09_sure_get : (head_ParseRequest.f [71, 69, 84, 32, 47, 32, 72, 84, 84, 80, 47, 49, 46, 49, 13, 10, 72, 111, 115, 116, 58, 32, 97, 13, 10, 13, 10] 100).map (fun r => (r.1, r.2.1, r.2.2.1, r.2.2.2.1.length, r.2.2.2.2.1, r.2.2.2.2.2)) = some ((⟨#[71, 69, 84]⟩ : ByteArray), (⟨#[47]⟩ : ByteArray), (1 : Int), 1, 27, none) := by kernel_rfl
theorem turnstilelaw09_sure_row (w : World) : (Kd.int .u8).C (w.alloc (.cells #[.int .u8 71, .int .u8 69, .int .u8 84, .int .u8 32, .int .u8 47, .int .u8 32, .int .u8 72, .int .u8 84, .int .u8 84, .int .u8 80, .int .u8 47, .int .u8 49, .int .u8 46, .int .u8 49, .int .u8 13, .int .u8 10, .int .u8 72, .int .u8 111, .int .u8 115, .int .u8 116, .int .u8 58, .int .u8 32, .int .u8 97, .int .u8 13, .int .u8 10, .int .u8 13, .int .u8 10] 5 (27, 28))) (some ⟨w.heap.size, 0, none⟩) 27 [71, 69, 84, 32, 47, 32, 72, 84, 84, 80, 47, 49, 46, 49, 13, 10, 72, 111, 115, 116, 58, 32, 97, 13, 10, 13, 10] := by
  refine Kd.C_of_reads (d := (0 : Int)) ⟨rfl, by decide, fun _ => ⟨_, rfl, fun j hj => ?_⟩⟩
  have h := encs_get (enc := Value.int .u8) (d := (0 : Int)) [71, 69, 84, 32, 47, 32, 72, 84, 84, 80, 47, 49, 46, 49, 13, 10, 72, 111, 115, 116, 58, 32, 97, 13, 10, 13, 10] j hj
  have e : (⟨w.heap.size, 0, none⟩ : Addr).add j = ⟨w.heap.size, j, none⟩ := by
    unfold Addr.add
    split
    · rename_i q
      rw [q]
    · rw [Nat.zero_add]
  rw [← h, e]
  show (w.alloc (.cells (encs (Value.int .u8) [71, 69, 84, 32, 47, 32, 72, 84, 84, 80, 47, 49, 46, 49, 13, 10, 72, 111, 115, 116, 58, 32, 97, 13, 10, 13, 10]).toArray 5 (27, 28))).cell? ⟨w.heap.size, j, none⟩ = _
  unfold World.cell?
  rw [heap_alloc_new]
  simp
set_option maxRecDepth 8000 in
theorem turnstilelaw09_sure.calls (r : Bool) (w : World) (h : turnstilelaw09_sure.f = some r) :
    Calls Tryd.prog 18 #[] w fun e w' => e = .returned (.bool r) ∧ Below w.heap.size w w' := by
  obtain rfl : true = r := Option.some.inj h
  clear h
  obtain ⟨⟨r1, r2, r3, r4, r5, r6⟩, hp, hq⟩ := Option.map_eq_some_iff.1 turnstilelaw09_sure_get
  simp only [Prod.mk.injEq] at hq
  obtain ⟨rfl, rfl, rfl, hlen, rfl, rfl⟩ := hq
  have HP := Aside0.mk hp
  have HL := Aside0.mk hlen
  clear hp hlen
  have hcv := Go.Lib.run_convert_bytes_const (P := Tryd.prog) w 27 5 #[.int .u8 71, .int .u8 69, .int .u8 84, .int .u8 32, .int .u8 47, .int .u8 32, .int .u8 72, .int .u8 84, .int .u8 84, .int .u8 80, .int .u8 47, .int .u8 49, .int .u8 46, .int .u8 49, .int .u8 13, .int .u8 10, .int .u8 72, .int .u8 111, .int .u8 115, .int .u8 116, .int .u8 58, .int .u8 32, .int .u8 97, .int .u8 13, .int .u8 10, .int .u8 13, .int .u8 10] 27 27 Tryd.underlying27 Tryd.underlying5
  go_enter Tryd.func18, Tryd.ntmps18
  go_wp2_with (first
    | ((with_reducible refine gate_callee (f := 13) rfl ?_)
       refine goesL_ (some 7) rfl rfl Tryd.func13 (by kernel_rfl) rfl #[.slice (some ⟨w.heap.size, 0, none⟩) 27 27, .int .i64 100] rfl (by (try simp only [List.map_toArray, List.map_cons, List.map_nil]); first | done | rfl) ?_
       have HW0 := Aside0.mk (below_alloc (Below.refl w.heap.size w) (.cells #[.int .u8 71, .int .u8 69, .int .u8 84, .int .u8 32, .int .u8 47, .int .u8 32, .int .u8 72, .int .u8 84, .int .u8 84, .int .u8 80, .int .u8 47, .int .u8 49, .int .u8 46, .int .u8 49, .int .u8 13, .int .u8 10, .int .u8 72, .int .u8 111, .int .u8 115, .int .u8 116, .int .u8 58, .int .u8 32, .int .u8 97, .int .u8 13, .int .u8 10, .int .u8 13, .int .u8 10] 5 (27, 28)))
       (refine (head_ParseRequest.calls (some ⟨w.heap.size, 0, none⟩) 27 [71, 69, 84, 32, 47, 32, 72, 84, 84, 80, 47, 49, 46, 49, 13, 10, 72, 111, 115, 116, 58, 32, 97, 13, 10, 13, 10] 100 _ _ _ _ _ _ _ (turnstilelaw09_sure_row w) (Nat.le_refl _) HP.out).mono ?_)
       rintro e w3 ⟨v, rfl, hR, hb⟩
       obtain ⟨A4, c4, ev, _, _⟩ := Kd.R_reads hR
       subst ev
       have HB := Aside0.mk (below_step HW0.out hb)
       rw [HL.out, errW_none]
       clear hR hb
       refine ⟨_, rfl, ?_⟩)
    | ((with_reducible refine gate_dst (N := 1) rfl ?_)
       refine box_event ?hg (N := 1) ?hd (cs := #[.string (⟨#[]⟩ : ByteArray), .string (⟨#[]⟩ : ByteArray), .int .i64 0, .slice none 0 0]) (t := 24) ?hr ?_
       case hd => rfl
       case hg => rfl
       case hr => first | (go_simp; done) | (go_simp; rfl)
       intro gb hgb w5 hbb hb5
       have HB5 := Aside0.mk (below_step HB.out hb5)
       have GB := Aside0.mk (show w.heap.size ≤ gb by have := below_size HB.out; omega)
       have kc0 : w5.cell? ⟨gb, 0, none⟩ = some (.string (⟨#[]⟩ : ByteArray)) := (blk_cell hbb 0).trans rfl
       have kc1 : w5.cell? ⟨gb, 1, none⟩ = some (.string (⟨#[]⟩ : ByteArray)) := (blk_cell hbb 1).trans rfl
       have kc2 : w5.cell? ⟨gb, 2, none⟩ = some (.int .i64 0) := (blk_cell hbb 2).trans rfl
       have kc3 : w5.cell? ⟨gb, 3, none⟩ = some (.slice none 0 0) := (blk_cell hbb 3).trans rfl
       have fc0 := blk_frozen hbb 0
       have fc1 := blk_frozen hbb 1
       have fc2 := blk_frozen hbb 2
       have fc3 := blk_frozen hbb 3
       clear hgb hbb hb5))
  go_ret
  exact ⟨rfl, below_set (below_set (below_set (below_set HB5.out GB.out) GB.out) GB.out) GB.out⟩

end Go.Proofs.YtmmlacbcolfngaaDoor.Q
