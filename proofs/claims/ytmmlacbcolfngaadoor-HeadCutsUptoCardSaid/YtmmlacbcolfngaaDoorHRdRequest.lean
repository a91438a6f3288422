/- What a head's reader gives as a request's head. By hand. -/
import Derived.Test.YtmmlacbcolfngaaDoorHRdStart
import Derived.StillTactics
namespace Go.Proofs.YtmmlacbcolfngaaDoor.Q
open Go.RowKit Go.Proofs.YtmmlacbcolfngaaDoorW.PrintWords Go.Proofs.YtmmlacbcolfngaaDoorW.PrintLast Go.Proofs.YtmmlacbcolfngaaDoorW.PrintMore
attribute [local go_sem] max2_int min2_int max_two min_two max_three min_three max_four min_four
set_option linter.unusedVariables false
set_option linter.unusedSimpArgs false
set_option maxRecDepth 8000

theorem Rd.on {base : Nat} {W W1 : World} {g : Nat} {s : RdSt} {v0 v1 : Value} (h : Rd base W g s v0 v1) (hb : Below W.heap.size W W1) : Rd base W1 g s v0 v1 := (h.st.on hb).rd

set_option maxHeartbeats 1600000 in
theorem request_no (base : Nat) (w : World) (g : Nat) (s : RdSt) (u0 u1 : Value) (h : Rd base w g s u0 u1) (hd : s.done true = false) :
    Calls Tryd.prog 26 #[.pointer (some ⟨g, 0, none⟩)] w fun e w' => e = .returned (.tuple #[.agg #[.string (⟨#[]⟩ : ByteArray), .string (⟨#[]⟩ : ByteArray), .int .i64 0, .slice none 0 0], errW (some 8)]) ∧ Below w.heap.size w w' := by
  have X := Aside0.mk h
  have HD := Aside0.mk hd
  clear h hd
  go_enter Tryd.func26, Tryd.ntmps26
  go_wp2_with (first
    | ((with_reducible refine gate_dst (N := 2) rfl ?_)
       refine box_event ?hg (N := 2) ?hd (cs := #[.string (⟨#[]⟩ : ByteArray), .string (⟨#[]⟩ : ByteArray), .int .i64 0, .slice none 0 0]) (t := 24) ?hr ?_
       case hd => rfl
       case hg => rfl
       case hr => first | (go_simp; done) | (go_simp; rfl)
       intro ga hga w1 hba hb1
       have X1 := Aside0.mk (X.out.on hb1)
       have HB1 := Aside0.mk hb1
       have BA1 := Aside0.mk hba
       have GA := Aside0.mk (show w.heap.size ≤ ga by omega)
       have GN := Aside0.mk (show g ≠ ga from fun e => by have := blk_lt X.out.blk; omega)
       clear hga hba hb1)
    | ((with_reducible refine gate_callee (f := 61) rfl ?_)
       refine goesL_ (some 6) rfl rfl Tryd.func61 (by kernel_rfl) rfl #[.pointer (some ⟨g, 0, none⟩), .bool true] rfl (by (try simp only [List.map_toArray, List.map_cons, List.map_nil]); first | done | rfl) ?_
       (with_reducible refine (done_calls base _ g s _ _ true X1.out).mono ?_)
       rintro e w2 ⟨rfl, hb2⟩
       have X2 := Aside0.mk (X1.out.on hb2)
       have BA2 := Aside0.mk (blk_below BA1.out hb2)
       have HB2 := Aside0.mk (below_step HB1.out hb2)
       have ka0 : w2.cell? ⟨ga, 0, none⟩ = some (.string (⟨#[]⟩ : ByteArray)) := (blk_cell BA2.out 0).trans rfl
       have ka1 : w2.cell? ⟨ga, 1, none⟩ = some (.string (⟨#[]⟩ : ByteArray)) := (blk_cell BA2.out 1).trans rfl
       have ka2 : w2.cell? ⟨ga, 2, none⟩ = some (.int .i64 0) := (blk_cell BA2.out 2).trans rfl
       have ka3 : w2.cell? ⟨ga, 3, none⟩ = some (.slice none 0 0) := (blk_cell BA2.out 3).trans rfl
       have fa0 := blk_frozen BA2.out 0
       have fa1 := blk_frozen BA2.out 1
       have fa2 := blk_frozen BA2.out 2
       have fa3 := blk_frozen BA2.out 3
       clear hb2
       rw [HD.out]
       refine ⟨_, rfl, ?_⟩))
  refine bodyPost_ret (results_ct rfl _ _ ga 24 #[.string (⟨#[]⟩ : ByteArray), .string (⟨#[]⟩ : ByteArray), .int .i64 0, .slice none 0 0] (0, 0) _ rfl (blk_put (blk_put (blk_put (blk_put BA2.out 0 _ rfl) 1 _ rfl) 2 _ rfl) 3 _ rfl) Tryd.underlying24 rfl (by kernel_rfl)) rfl ?_
  exact ⟨rfl, below_set (below_set (below_set (below_set HB2.out GA.out) GA.out) GA.out) GA.out⟩

set_option maxHeartbeats 1600000 in
theorem request_yes (base : Nat) (w : World) (g : Nat) (s : RdSt) (u0 u1 : Value) (h : Rd base w g s u0 u1) (hd : s.done true = true) (hfl : s.field.length ≤ 1000000) :
    Calls Tryd.prog 26 #[.pointer (some ⟨g, 0, none⟩)] w fun e w' => ∃ v, e = .returned (.tuple #[.agg #[.string s.qm, .string s.qt, .int .i64 s.qn, v], errW none]) ∧ Kd.R k67 67 w' w.heap.size (fun _ => True) v s.field ∧ Below w.heap.size w w' := by
  obtain ⟨A', cp', rfl, hcl', hcf⟩ := Kd.R_reads h.field
  have HCF := Aside0.mk hcf
  clear hcf
  have X := Aside0.mk h
  have HD := Aside0.mk hd
  clear h hd
  go_enter Tryd.func26, Tryd.ntmps26
  go_wp2_with (first
    | ((with_reducible refine gate_dst (N := 2) rfl ?_)
       refine box_event ?hg (N := 2) ?hd (cs := #[.string (⟨#[]⟩ : ByteArray), .string (⟨#[]⟩ : ByteArray), .int .i64 0, .slice none 0 0]) (t := 24) ?hr ?_
       case hd => rfl
       case hg => rfl
       case hr => first | (go_simp; done) | (go_simp; rfl)
       intro ga hga w1 hba hb1
       have X1 := Aside0.mk (X.out.on hb1)
       have HB1 := Aside0.mk hb1
       have BA1 := Aside0.mk hba
       have GA := Aside0.mk (show w.heap.size ≤ ga by omega)
       have GN := Aside0.mk (show g ≠ ga from fun e => by have := blk_lt X.out.blk; omega)
       clear hga hba hb1)
    | ((with_reducible refine gate_callee (f := 61) rfl ?_)
       refine goesL_ (some 6) rfl rfl Tryd.func61 (by kernel_rfl) rfl #[.pointer (some ⟨g, 0, none⟩), .bool true] rfl (by (try simp only [List.map_toArray, List.map_cons, List.map_nil]); first | done | rfl) ?_
       (with_reducible refine (done_calls base _ g s _ _ true X1.out).mono ?_)
       rintro e w2 ⟨rfl, hb2⟩
       have X2 := Aside0.mk (X1.out.on hb2)
       have BA2 := Aside0.mk (blk_below BA1.out hb2)
       have HB2 := Aside0.mk (below_step HB1.out hb2)
       have ka0 : w2.cell? ⟨ga, 0, none⟩ = some (.string (⟨#[]⟩ : ByteArray)) := (blk_cell BA2.out 0).trans rfl
       have ka1 : w2.cell? ⟨ga, 1, none⟩ = some (.string (⟨#[]⟩ : ByteArray)) := (blk_cell BA2.out 1).trans rfl
       have ka2 : w2.cell? ⟨ga, 2, none⟩ = some (.int .i64 0) := (blk_cell BA2.out 2).trans rfl
       have ka3 : w2.cell? ⟨ga, 3, none⟩ = some (.slice none 0 0) := (blk_cell BA2.out 3).trans rfl
       have fa0 := blk_frozen BA2.out 0
       have fa1 := blk_frozen BA2.out 1
       have fa2 := blk_frozen BA2.out 2
       have fa3 := blk_frozen BA2.out 3
       have kg6 : w2.cell? ⟨g, 6, none⟩ = some (.string s.qm) := (blk_cell X2.out.blk 6).trans rfl
       have kg7 : w2.cell? ⟨g, 7, none⟩ = some (.string s.qt) := (blk_cell X2.out.blk 7).trans rfl
       have kg8 : w2.cell? ⟨g, 8, none⟩ = some (.int .i64 s.qn) := (blk_cell X2.out.blk 8).trans rfl
       have kg9 : w2.cell? ⟨g, 9, none⟩ = some (.slice none 0 0) := (blk_cell X2.out.blk 9).trans rfl
       clear hb2
       rw [HD.out]
       refine ⟨_, rfl, ?_⟩)
    | ((with_reducible refine gate_dst (N := 4) rfl ?_)
       refine box_event ?hg (N := 4) ?hd (cs := #[.string (⟨#[]⟩ : ByteArray), .string (⟨#[]⟩ : ByteArray), .int .i64 0, .slice none 0 0]) (t := 24) ?hr ?_
       case hd => rfl
       case hg => rfl
       case hr => first | (go_simp; done) | (go_simp; rfl)
       intro gb hgb w3 hbb hb3
       have X3 := Aside0.mk (X2.out.on hb3)
       have BA3 := Aside0.mk (blk_below BA2.out hb3)
       have BB3 := Aside0.mk hbb
       have HB3 := Aside0.mk (below_step HB2.out hb3)
       have GB := Aside0.mk (show w.heap.size ≤ gb by have := HB2.out.size; omega)
       have n1 : (g = gb) = False := eq_false (fun e => by have := blk_lt X2.out.blk; omega)
       have n2 : (gb = g) = False := eq_false (fun e => by have := blk_lt X2.out.blk; omega)
       have n3 : (ga = gb) = False := eq_false (fun e => by have := blk_lt BA2.out; omega)
       have n4 : (gb = ga) = False := eq_false (fun e => by have := blk_lt BA2.out; omega)
       have kb0 : w3.cell? ⟨ga, 0, none⟩ = some (.string (⟨#[]⟩ : ByteArray)) := (blk_cell BA3.out 0).trans rfl
       have kb1 : w3.cell? ⟨ga, 1, none⟩ = some (.string (⟨#[]⟩ : ByteArray)) := (blk_cell BA3.out 1).trans rfl
       have kb2 : w3.cell? ⟨ga, 2, none⟩ = some (.int .i64 0) := (blk_cell BA3.out 2).trans rfl
       have kb3 : w3.cell? ⟨ga, 3, none⟩ = some (.slice none 0 0) := (blk_cell BA3.out 3).trans rfl
       have fb0 := blk_frozen BA3.out 0
       have fb1 := blk_frozen BA3.out 1
       have fb2 := blk_frozen BA3.out 2
       have fb3 := blk_frozen BA3.out 3
       have kc0 : w3.cell? ⟨gb, 0, none⟩ = some (.string (⟨#[]⟩ : ByteArray)) := (blk_cell BB3.out 0).trans rfl
       have kc1 : w3.cell? ⟨gb, 1, none⟩ = some (.string (⟨#[]⟩ : ByteArray)) := (blk_cell BB3.out 1).trans rfl
       have kc2 : w3.cell? ⟨gb, 2, none⟩ = some (.int .i64 0) := (blk_cell BB3.out 2).trans rfl
       have kc3 : w3.cell? ⟨gb, 3, none⟩ = some (.slice none 0 0) := (blk_cell BB3.out 3).trans rfl
       have fc0 := blk_frozen BB3.out 0
       have fc1 := blk_frozen BB3.out 1
       have fc2 := blk_frozen BB3.out 2
       have fc3 := blk_frozen BB3.out 3
       have kg15 : w3.cell? ⟨g, 15, none⟩ = some (.slice A' s.field.length cp') := X3.out.c15
       clear hgb hbb hb3)
    | ((with_reducible refine gate_builtin (b := .append) (xs := #[.const (.slice none 0 0), .tmp 17]) rfl ?_); at_builtin
       have HBW := Aside0.mk (below_set (below_set (below_set (below_set HB3.out GB.out (j := 0) (v := .string s.qm)) GB.out (j := 1) (v := .string s.qt)) GB.out (j := 2) (v := .int .i64 s.qn)) GB.out (j := 3) (v := .slice none 0 0))
       have BBW := Aside0.mk (blk_put (cs' := #[.string s.qm, .string s.qt, .int .i64 s.qn, .slice none 0 0]) (blk_put (blk_put (blk_put BB3.out 0 (.string s.qm) rfl) 1 (.string s.qt) rfl) 2 (.int .i64 s.qn) rfl) 3 (.slice none 0 0) rfl)
       have NN := Aside0.mk (show ga ≠ gb from fun e => by have := blk_lt BA2.out; rw [n3] at e; exact e)
       have BAW := Aside0.mk (blk_far (blk_far (blk_far (blk_far BA3.out (p := ⟨gb, 0, none⟩) NN.out (.string s.qm)) (p := ⟨gb, 1, none⟩) NN.out (.string s.qt)) (p := ⟨gb, 2, none⟩) NN.out (.int .i64 s.qn)) (p := ⟨gb, 3, none⟩) NN.out (.slice none 0 0))
       refine Kd.R_append_rows k67 (Rr := k67.K w) (w0 := w) w.heap.size rfl (.const (.slice none 0 0)) (.tmp 17) 22 67 (.agg #[(.string ⟨#[]⟩), (.string ⟨#[]⟩)]) 32 rfl Tryd.underlying22 info67 rfl (by decide) (by omega) (.slice none 0 0) [] s.field A' s.field.length cp' (fun _ => True) (fun _ => False) rfl rfl ?aO ?aR ?aK (fun _ h => h.elim) (fun _ _ => trivial) ?aB ?aS ?aL ?_
       case aO => exact Kd.R_nil _ _ _ _ _
       case aR => exact ReadsRow.imp_ HCF.out HBW.out (fun _ _ h => h)
       case aK =>
         intro x cs hk
         obtain rfl := k67_open hk
         exact k67_mkM _ _ _ x
       case aB => exact HBW.out
       case aS => exact below_size HBW.out
       case aL =>
         rw [List.length_nil]
         omega
       intro x1 w4 ho hb4 hg hat
       rw [List.nil_append] at ho
       obtain ⟨A5, c5, ex1, _, _⟩ := Kd.R_reads ho
       subst ex1
       have BB4 := Aside0.mk (blk_grown BBW.out hg (by simp [Value.ownBlock]))
       have BA4 := Aside0.mk (blk_grown BAW.out hg (by simp [Value.ownBlock]))
       have HO := Aside0.mk ho
       have HB4 := Aside0.mk hb4
       have kd0 : w4.cell? ⟨gb, 0, none⟩ = some (.string s.qm) := (blk_cell BB4.out 0).trans rfl
       have kd1 : w4.cell? ⟨gb, 1, none⟩ = some (.string s.qt) := (blk_cell BB4.out 1).trans rfl
       have kd2 : w4.cell? ⟨gb, 2, none⟩ = some (.int .i64 s.qn) := (blk_cell BB4.out 2).trans rfl
       have kd3 : w4.cell? ⟨gb, 3, none⟩ = some (.slice none 0 0) := (blk_cell BB4.out 3).trans rfl
       have fd0 := blk_frozen BB4.out 0
       have fd1 := blk_frozen BB4.out 1
       have fd2 := blk_frozen BB4.out 2
       have fd3 := blk_frozen BB4.out 3
       have ke0 : w4.cell? ⟨ga, 0, none⟩ = some (.string (⟨#[]⟩ : ByteArray)) := (blk_cell BA4.out 0).trans rfl
       have ke1 : w4.cell? ⟨ga, 1, none⟩ = some (.string (⟨#[]⟩ : ByteArray)) := (blk_cell BA4.out 1).trans rfl
       have ke2 : w4.cell? ⟨ga, 2, none⟩ = some (.int .i64 0) := (blk_cell BA4.out 2).trans rfl
       have ke3 : w4.cell? ⟨ga, 3, none⟩ = some (.slice none 0 0) := (blk_cell BA4.out 3).trans rfl
       have fe0 := blk_frozen BA4.out 0
       have fe1 := blk_frozen BA4.out 1
       have fe2 := blk_frozen BA4.out 2
       have fe3 := blk_frozen BA4.out 3
       clear ho hb4 hg hat))
  have BA5 := Aside0.mk (blk_far BA4.out (p := ⟨gb, 3, none⟩) NN.out (.slice A5 s.field.length c5))
  refine bodyPost_ret (results_ct rfl _ _ ga 24 #[.string s.qm, .string s.qt, .int .i64 s.qn, .slice A5 s.field.length c5] (0, 0) _ rfl (blk_put (blk_put (blk_put (blk_put BA5.out 0 _ rfl) 1 _ rfl) 2 _ rfl) 3 _ rfl) Tryd.underlying24 rfl (by kernel_rfl)) rfl ?_
  refine ⟨_, rfl, ?_, ?_⟩
  · have r0 := Kd.R_set HO.out BB4.out (by decide) 3 (.slice A5 s.field.length c5)
    have r1 := Kd.R_set r0 BA5.out (by decide) 0 (.string s.qm)
    have b1 := blk_set BA5.out 0 (.string s.qm)
    have r2 := Kd.R_set r1 b1 (by decide) 1 (.string s.qt)
    have b2 := blk_set b1 1 (.string s.qt)
    have r3 := Kd.R_set r2 b2 (by decide) 2 (.int .i64 s.qn)
    have b3 := blk_set b2 2 (.int .i64 s.qn)
    exact Kd.R_set r3 b3 (by decide) 3 _
  · exact below_set (below_set (below_set (below_set (below_set HB4.out GB.out) GA.out) GA.out) GA.out) GA.out

end Go.Proofs.YtmmlacbcolfngaaDoor.Q
